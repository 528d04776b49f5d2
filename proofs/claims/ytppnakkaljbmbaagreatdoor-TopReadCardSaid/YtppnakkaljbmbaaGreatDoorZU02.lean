/- Steps of a proof; no condition beyond what each states. -/
import Derived.Lib.Small
import Derived.Test.YtppnakkaljbmbaaGreatDoorZU00
set_option linter.unusedVariables false
set_option linter.unusedSimpArgs false
set_option maxRecDepth 100000
set_option maxHeartbeats 8000000
namespace Go.Proofs.YtppnakkaljbmbaaGreatDoor
namespace Tn
variable {s o v:List Nat} {f:Nat->Nat}
def cyc (s:List Nat) (k:Nat):Nat:=s.getD (k%s.length) 0
def C (s:List Nat):Nat->Nat->Nat
 |0,_=>0
 |m+1,k=>C s m k*256+cyc s (k+m)
def Bytes (s:List Nat):Prop:=∀x∈s,x<256
theorem zHi (h:Bytes s) (k:Nat):cyc s k<256:=by
 unfold cyc
 rw[List.getD_eq_getElem?_getD]
 cases hk:s[k%s.length]? with
 |none=>simp
 |some x=>exact h x (List.mem_of_getElem? hk)
theorem zNt (s:List Nat) (k:Nat):cyc s (k+s.length)=cyc s k:=by unfold cyc;rw[Nat.add_mod_right]
theorem zJe (h:Bytes s):∀m k,C s m k<256^m
 |0,_=>by simp[C]
 |m+1,k=>by
  have:=zJe h m k
  have:=zHi h (k+m)
  simp only[C,Nat.pow_succ]
  omega
theorem zUd (s:List Nat):∀m k,C s (m+1) k=cyc s k*256^m+C s m (k+1)
 |0,k=>by simp[C]
 |m+1,k=>by
  have ih:=zUd s m k
  rw[C,ih,C,Nat.pow_succ]
  rw[Nat.add_mul,Nat.mul_assoc,Nat.add_assoc,show k+(m+1)=k+1+m by omega]
theorem zKa (s:List Nat) (m n k:Nat):C s (m+n) k=C s m k*256^n+C s n (k+m):=by
 induction n with
 |zero=>simp[C]
 |succ n ih=>
  show C s (m+n) k*256+_=_
  show C s (m+n) k*256+cyc s (k+(m+n))=_
  rw[ih,C,Nat.pow_succ,Nat.add_mul,Nat.mul_assoc,Nat.add_assoc,show k+(m+n)=k+m+n by omega]
theorem zUc (s:List Nat):∀m k,C s m (k+s.length)=C s m k
 |0,_=>rfl
 |m+1,k=>by
  rw[C,C,zUc s m k,show k+s.length+m=k+m+s.length by omega,zNt]
theorem zV0 (s:List Nat) (m k:Nat):C s m (k%s.length)=C s m k:=by
 have h:∀q r,C s m (r+q*s.length)=C s m r:=by
  intro q r
  induction q with
  |zero=>simp
  |succ q ih=>rw[Nat.succ_mul,<-Nat.add_assoc,zUc,ih]
 conv=>rhs;rw[<-Nat.mod_add_div k s.length,Nat.mul_comm]
 rw[h]
theorem qGs (h:Bytes s) (m a b:Nat):C s (m+m) a<C s (m+m) b↔C s m a<C s m b\/(C s m a=C s m b/\C s m (a+m)<C s m (b+m)):=by
 rw[zKa,zKa]
 have h1:=zJe h m (a+m)
 have h2:=zJe h m (b+m)
 generalize C s m (a+m)=x at*
 generalize C s m (b+m)=y at*
 generalize C s m a=u at*
 generalize C s m b=v at*
 generalize 256^m=K at*
 rcases Nat.lt_trichotomy u v with h3|h3|h3
 ·have:(u+1)*K<=v*K:=Nat.mul_le_mul_right _ h3
  rw[Nat.add_mul,Nat.one_mul]at this
  exact⟨fun _=> .inl h3,fun _=>by omega⟩
 ·subst h3
  constructor
  ·intro h4;exact .inr ⟨rfl,by omega⟩
  ·rintro(h4|⟨_,h4⟩)
   ·omega
   ·omega
 ·have:(v+1)*K<=u*K:=Nat.mul_le_mul_right _ h3
  rw[Nat.add_mul,Nat.one_mul]at this
  constructor
  ·intro h4;omega
  ·rintro(h4|⟨h4,_⟩)<;>omega
theorem qEk (h:Bytes s) (a b:Nat) (e:C s s.length a=C s s.length b):∀j,cyc s (a+j)=cyc s (b+j):=by
 have key:∀m,C s m a=C s m b->∀j,j<m->cyc s (a+j)=cyc s (b+j):=by
  intro m
  induction m with
  |zero=>intro _ j hj;omega
  |succ m ih=>
   intro e j hj
   have ha:=zHi h (a+m)
   have hb:=zHi h (b+m)
   simp only[C]at e
   rcases Nat.lt_or_ge j m with h1|h1
   ·exact ih (by omega) j h1
   ·obtain rfl:j=m:=by omega
    omega
 intro j
 rcases Nat.eq_zero_or_pos s.length with h0|h0
 ·have:∀k,cyc s k=0:=by intro k;unfold cyc;rw[List.getD_eq_getElem?_getD,List.getElem?_eq_none (by omega)];rfl
  rw[this,this]
 ·have h1:=key _ e (j%s.length) (Nat.mod_lt _ h0)
  have h2:∀c,cyc s (c+j%s.length)=cyc s (c+j):=by
   intro c
   unfold cyc
   rw[Nat.add_mod,Nat.mod_mod,<-Nat.add_mod]
  rw[h2,h2]at h1
  exact h1
theorem qGt (h:Bytes s) (a b:Nat) (e:C s s.length a=C s s.length b) (m:Nat):C s m a=C s m b:=by
 induction m with
 |zero=>rfl
 |succ m ih=>rw[C,C,ih,qEk h a b e]
theorem qBw (h:Bytes s) (m a b:Nat) (hm:s.length<=m):C s m a<C s m b↔C s s.length a<C s s.length b:=by
 obtain⟨d,rfl⟩:∃d,m=s.length+d:=⟨m-s.length,by omega⟩
 rcases Nat.lt_trichotomy (C s s.length a) (C s s.length b)with h1|h1|h1
 ·refine⟨fun _=>h1,fun _=> ?_⟩
  rw[zKa,zKa]
  have h2:=zJe h d (a+s.length)
  generalize C s s.length a=u at*
  generalize C s s.length b=v at*
  have:(u+1)*256^d<=v*256^d:=Nat.mul_le_mul_right _ h1
  rw[Nat.add_mul,Nat.one_mul]at this
  omega
 ·have:=qGt h a b h1 (s.length+d)
  omega
 ·refine⟨fun h3=> ?_,fun h3=>by omega⟩
  rw[zKa,zKa]at h3
  have h2:=zJe h d (b+s.length)
  generalize C s s.length a=u at*
  generalize C s s.length b=v at*
  have:(v+1)*256^d<=u*256^d:=Nat.mul_le_mul_right _ h1
  rw[Nat.add_mul,Nat.one_mul]at this
  omega
def By (f:Nat->Nat) (l:List Nat):Prop:=l.Pairwise fun a b=>f a<f b\/(f a=f b/\a<b)
theorem By.one:∀{l m:List Nat},l.Perm m->By f l->By f m->l=m
 |[],m,hp,_,_=>hp.symm.eq_nil.symm▸rfl
 |x::l,m,hp,hl,hm=>by
  cases m with
  |nil=>exact absurd hp.length_eq (by simp)
  |cons y m=>
   obtain⟨h1,h2⟩:=List.pairwise_cons.1 hl
   obtain⟨h3,h4⟩:=List.pairwise_cons.1 hm
   have e:x=y:=by
    rcases List.mem_cons.1 (hp.mem_iff.1 (List.mem_cons_self))with e|hx
    ·exact e
    ·rcases List.mem_cons.1 (hp.mem_iff.2 (List.mem_cons_self (a:=y) (l:=m)))with e|hy
     ·exact e.symm
     ·have q1:=h1 y hy
      have q2:=h3 x hx
      omega
   subst e
   rw[By.one (hp.cons_inv) h2 h4]
theorem By.congr {g:Nat->Nat} {l:List Nat} (h:∀a∈l,∀b∈l,(f a<f b↔g a<g b)) (hl:By f l):By g l:=by
 unfold By at*
 refine List.Pairwise.imp_of_mem (fun{a b} ha hb hab=> ?_) hl
 have h1:=h a ha b hb
 have h2:=h b hb a ha
 omega
structure Order (s:List Nat) (o:List Nat):Prop where
 perm:o.Perm (List.range s.length)
 by_:By (C s s.length) o
theorem Order.one {p:List Nat} (h1:Order s o) (h2:Order s p):o=p:=By.one (h1.perm.trans h2.perm.symm) h1.by_ h2.by_
theorem zL5:∀{l m:List Nat},l.Perm m->l.Pairwise (·<=·)->m.Pairwise (·<=·)->l=m
 |[],m,hp,_,_=>hp.symm.eq_nil.symm▸rfl
 |x::l,m,hp,hl,hm=>by
  cases m with
  |nil=>exact absurd hp.length_eq (by simp)
  |cons y m=>
   obtain⟨h1,h2⟩:=List.pairwise_cons.1 hl
   obtain⟨h3,h4⟩:=List.pairwise_cons.1 hm
   have e:x=y:=by
    rcases List.mem_cons.1 (hp.mem_iff.1 (List.mem_cons_self))with e|hx
    ·exact e
    ·rcases List.mem_cons.1 (hp.mem_iff.2 (List.mem_cons_self (a:=y) (l:=m)))with e|hy
     ·exact e.symm
     ·have q1:=h1 y hy
      have q2:=h3 x hx
      omega
   subst e
   rw[zL5 (hp.cons_inv) h2 h4]
def back (n x:Nat):Nat:=x%256*256^(n-1)+x/256
theorem zYm (h:Bytes s) (h0:0<s.length) (k:Nat):back s.length (C s s.length (k+1))=C s s.length k:=by
 obtain⟨n,hn⟩:∃n,s.length=n+1:=⟨s.length-1,by omega⟩
 have hc:=zHi h (k+1+n)
 have e1:C s s.length (k+1)=C s n (k+1)*256+cyc s k:=by
  rw[hn,C,show k+1+n=k+s.length by omega,zNt]
 have e2:C s s.length k=cyc s k*256^n+C s n (k+1):=by rw[hn,zUd]
 have hk:=zHi h k
 rw[e1,e2,back,hn]
 rw[show(C s n (k+1)*256+cyc s k)%256=cyc s k by omega,show(C s n (k+1)*256+cyc s k)/256=C s n (k+1)by omega,Nat.add_sub_cancel]
theorem qBk {n x y:Nat} (hx:x<256^n) (hy:y<256^n) (h0:0<n) (e:back n x=back n y):x=y:=by
 obtain⟨m,rfl⟩:∃m,n=m+1:=⟨n-1,by omega⟩
 unfold back at e
 rw[Nat.add_sub_cancel]at e
 rw[Nat.pow_succ]at hx hy
 have h1:x/256<256^m:=by omega
 have h2:y/256<256^m:=by omega
 have h3:x%256=y%256:=by
  rcases Nat.lt_trichotomy (x%256) (y%256)with h|h|h
  ·have:(x%256+1)*256^m<=y%256*256^m:=Nat.mul_le_mul_right _ h
   rw[Nat.add_mul,Nat.one_mul]at this
   omega
  ·exact h
  ·have:(y%256+1)*256^m<=x%256*256^m:=Nat.mul_le_mul_right _ h
   rw[Nat.add_mul,Nat.one_mul]at this
   omega
 rw[h3]at e
 omega
def lastOf (s o:List Nat):List Nat:=o.map fun k=>cyc s (k+s.length-1)
theorem zSa (h:Bytes s) (h0:0<s.length) (k:Nat):C s s.length k%256=cyc s (k+s.length-1):=by
 obtain⟨n,hn⟩:∃n,s.length=n+1:=⟨s.length-1,by omega⟩
 have hc:=zHi h (k+n)
 rw[hn,C,show k+(n+1)-1=k+n by omega]
 omega
structure Vec (l v:List Nat):Prop where
 perm:v.Perm (List.range l.length)
 by_:By (fun i=>l.getD i 0) v
theorem zW0 (n:Nat) (h0:0<n):((List.range n).map fun k=>(k+1)%n).Perm (List.range n):=by
 obtain⟨m,rfl⟩:∃m,n=m+1:=⟨n-1,by omega⟩
 have e:((List.range (m+1)).map fun k=>(k+1)%(m+1))=(List.range m).map Nat.succ++[0]:=by
  rw[List.range_succ,List.map_append]
  congr 1
  ·refine List.map_congr_left fun k hk=> ?_
   have:=List.mem_range.1 hk
   exact Nat.mod_eq_of_lt (by omega)
  ·simp
 rw[e,List.range_succ_eq_map]
 exact List.perm_append_singleton _ _
theorem qAe (l:List Nat):(List.range l.length).map (fun i=>l.getD i 0)=l:=by
 apply List.ext_getElem?
 intro i
 rw[List.getElem?_map]
 rcases Nat.lt_or_ge i l.length with h|h
 ·rw[List.getElem?_range h,List.getElem?_eq_getElem h]
  simp[List.getD_eq_getElem?_getD,List.getElem?_eq_getElem h]
 ·rw[List.getElem?_eq_none h,List.getElem?_eq_none (by simpa using h)]
  rfl
theorem zYu (hs:Bytes s) (h0:0<s.length) (ho:Order s o) (hv:Vec (lastOf s o) v) (j:Nat) (hj:j<s.length):
  back s.length (C s s.length (o.getD (v.getD j 0) 0))=C s s.length (o.getD j 0):=by
 obtain⟨R,hR⟩:=zB (o.map (C s s.length))
 have hol:o.length=s.length:=by rw[ho.perm.length_eq,List.length_range]
 have hRl:R.length=s.length:=by rw[<-hR,List.length_map,hol]
 have hlast:lastOf s o=R.map (·%256):=by
  rw[<-hR,List.map_map]
  refine List.map_congr_left fun k _=> ?_
  exact(zSa hs h0 k).symm
 have hRs:R.Pairwise (·<=·):=by
  rw[<-hR,List.pairwise_map]
  refine ho.by_.imp fun{a b} h=> ?_
  omega
 have hRlt:∀x∈R,x<256^s.length:=by
  intro x hx
  rw[<-hR]at hx
  obtain⟨k,_,rfl⟩:=List.mem_map.1 hx
  exact zJe hs _ _
 have hvl:v.length=s.length:=by rw[hv.perm.length_eq,List.length_range,hlast,List.length_map,hRl]
 obtain⟨B,hB⟩:=zB (v.map (fun i=>back s.length (R.getD i 0)))
 have hget:∀i,i<s.length->(R.map (·%256)).getD i 0=R.getD i 0%256:=by
  intro i hi
  simp[List.getD_eq_getElem?_getD,List.getElem?_eq_getElem (show i<R.length by omega)]
 have hvr:∀i∈v,i<s.length:=by
  intro i hi
  have:=List.mem_range.1 (hv.perm.mem_iff.1 hi)
  rw[hlast,List.length_map,hRl]at this
  exact this
 have hBs:B.Pairwise (·<=·):=by
  rw[<-hB,List.pairwise_map]
  have hby:=hv.by_
  rw[hlast]at hby
  refine List.Pairwise.imp_of_mem (fun{a b} ha hb h=> ?_) hby
  have h1:=hvr a ha
  have h2:=hvr b hb
  simp only at h
  rw[hget a h1,hget b h2]at h
  have e1:R.getD a 0<256^s.length:=by
   simp only[List.getD_eq_getElem?_getD,List.getElem?_eq_getElem (show a<R.length by omega),Option.getD_some]
   exact hRlt _ (List.getElem_mem _)
  have e2:R.getD b 0<256^s.length:=by
   simp only[List.getD_eq_getElem?_getD,List.getElem?_eq_getElem (show b<R.length by omega),Option.getD_some]
   exact hRlt _ (List.getElem_mem _)
  have hle:a<b->R.getD a 0<=R.getD b 0:=by
   intro hab
   simp only[List.getD_eq_getElem?_getD,List.getElem?_eq_getElem (show a<R.length by omega),List.getElem?_eq_getElem (show b<R.length by omega),Option.getD_some]
   exact List.pairwise_iff_getElem.1 hRs a b (by omega) (by omega) hab
  generalize R.getD a 0=x at*
  generalize R.getD b 0=y at*
  unfold back
  obtain⟨m,hm⟩:∃m,s.length=m+1:=⟨s.length-1,by omega⟩
  rw[hm,Nat.pow_succ]at e1 e2
  rw[hm,Nat.add_sub_cancel]
  rcases h with h|⟨h,hab⟩
  ·have:(x%256+1)*256^m<=y%256*256^m:=Nat.mul_le_mul_right _ h
   rw[Nat.add_mul,Nat.one_mul]at this
   omega
  ·rw[h]
   have:=hle hab
   omega
 have hBp:B.Perm R:=by
  have h1:B.Perm ((List.range s.length).map fun i=>back s.length (R.getD i 0)):=by
   rw[<-hB]
   have:=hv.perm
   rw[hlast,List.length_map,hRl]at this
   exact this.map _
  have h2:((List.range s.length).map fun i=>back s.length (R.getD i 0))=R.map (back s.length):=by
   conv=>rhs;rw[<-qAe R,List.map_map,hRl]
   rfl
  rw[h2]at h1
  refine h1.trans ?_
  have h3:R.Perm ((List.range s.length).map (C s s.length)):=by rw[<-hR];exact ho.perm.map _
  have h4:((List.range s.length).map (C s s.length)).Perm ((List.range s.length).map fun k=>C s s.length (k+1)):=by
   have:=(zW0 s.length h0).map (C s s.length)
   rw[List.map_map]at this
   refine this.symm.trans ?_
   rw[show((List.range s.length).map (C s s.length∘fun k=>(k+1)%s.length))=(List.range s.length).map fun k=>C s s.length (k+1)from List.map_congr_left fun k _=>zV0 s _ _]
  have h5:=(h3.trans h4).map (back s.length)
  rw[List.map_map,show((List.range s.length).map (back s.length∘fun k=>C s s.length (k+1)))=(List.range s.length).map (C s s.length)from List.map_congr_left fun k _=>zYm hs h0 k]at h5
  exact h5.trans h3.symm
 have hBR:=zL5 hBp hBs hRs
 have hvj:v.getD j 0∈v:=by
  simp only[List.getD_eq_getElem?_getD,List.getElem?_eq_getElem (show j<v.length by omega),Option.getD_some]
  exact List.getElem_mem _
 have hRo:∀i,i<s.length->R.getD i 0=C s s.length (o.getD i 0):=by
  intro i hi
  rw[<-hR]
  simp[List.getD_eq_getElem?_getD,List.getElem?_eq_getElem (show i<o.length by omega)]
 have hj1:B.getD j 0=back s.length (R.getD (v.getD j 0) 0):=by
  rw[<-hB]
  simp[List.getD_eq_getElem?_getD,List.getElem?_eq_getElem (show j<v.length by omega)]
 rw[<-hRo _ (hvr _ hvj),<-hRo j hj,<-hj1,hBR]
def walk (v:List Nat) (o:Nat):Nat->Nat
 |0=>o
 |i+1=>v.getD (walk v o i) 0
theorem zN4 (hs:Bytes s) (h0:0<s.length) (ho:Order s o) (hv:Vec (lastOf s o) v) (g:Nat) (hg:g<s.length) (hz:o.getD g 0=0):
  ∀i,walk v g i<s.length/\C s s.length (o.getD (walk v g i) 0)=C s s.length i
 |0=>⟨hg,by show C s s.length (o.getD g 0)=_;rw[hz]⟩
 |i+1=>by
  obtain⟨h1,h2⟩:=zN4 hs h0 ho hv g hg hz i
  have h3:=zYu hs h0 ho hv _ h1
  have hol:o.length=s.length:=by rw[ho.perm.length_eq,List.length_range]
  have hll:(lastOf s o).length=s.length:=by unfold lastOf;rw[List.length_map,hol]
  have hvl:v.length=s.length:=by rw[hv.perm.length_eq,List.length_range,hll]
  refine⟨?_,?_⟩
  ·show v.getD (walk v g i) 0<_
   simp only[List.getD_eq_getElem?_getD,List.getElem?_eq_getElem (show walk v g i<v.length by omega),Option.getD_some]
   have:=List.mem_range.1 (hv.perm.mem_iff.1 (List.getElem_mem (show walk v g i<v.length by omega)))
   rw[hll]at this
   exact this
  ·rw[h2,<-zYm hs h0 i]at h3
   exact qBk (zJe hs _ _) (zJe hs _ _) h0 h3
theorem zYl (hs:Bytes s) (h0:0<s.length) (ho:Order s o) (hv:Vec (lastOf s o) v) (g:Nat) (hg:g<s.length) (hz:o.getD g 0=0) (i:Nat) (hi:i<s.length):
  (lastOf s o).getD (walk v g (i+1)) 0=s.getD i 0:=by
 obtain⟨h1,h2⟩:=zN4 hs h0 ho hv g hg hz (i+1)
 have hol:o.length=s.length:=by rw[ho.perm.length_eq,List.length_range]
 have e:(lastOf s o).getD (walk v g (i+1)) 0=C s s.length (o.getD (walk v g (i+1)) 0)%256:=by
  unfold lastOf
  rw[zSa hs h0]
  simp[List.getD_eq_getElem?_getD,List.getElem?_eq_getElem (show walk v g (i+1)<o.length by omega)]
 rw[e,h2,zSa hs h0,show i+1+s.length-1=i+s.length by omega,zNt]
 unfold cyc
 rw[Nat.mod_eq_of_lt hi]
end Tn
namespace Tn
variable {f:Nat->Nat}
def leB (f:Nat->Nat) (a b:Nat):Bool:=decide (f a<f b)||(f a==f b&&decide (a<=b))
theorem zH4 {a b:Nat}:leB f a b=true↔f a<f b\/(f a=f b/\a<=b):=by simp[leB]
def sorted (f:Nat->Nat) (n:Nat):List Nat:=(List.range n).mergeSort (leB f)
theorem sorted_perm (f:Nat->Nat) (n:Nat):(sorted f n).Perm (List.range n):=List.mergeSort_perm _ _
theorem zGc (f:Nat->Nat) (n:Nat):By f (sorted f n):=by
 have h1:(sorted f n).Pairwise (fun a b=>leB f a b=true):=List.pairwise_mergeSort (fun a b c h1 h2=>by rw[zH4]at*;omega) (fun a b=>by rw[Bool.or_eq_true,zH4,zH4];omega) _
 have h2:(sorted f n).Nodup:=(sorted_perm f n).nodup_iff.2 List.nodup_range
 unfold By
 refine List.Pairwise.imp₂ (fun a b h3 h4=> ?_) h1 h2
 rw[zH4]at h3
 omega
theorem zCn (f:Nat->Nat) (n:Nat):(sorted f n).length=n:=by rw[(sorted_perm f n).length_eq,List.length_range]
def zHx (s:List Nat):List Nat:=sorted (C s s.length) s.length
theorem zD5 (s:List Nat):Order s (zHx s):=⟨sorted_perm _ _,zGc _ _⟩
theorem Order.eq {s o:List Nat} (h:Order s o):o=zHx s:=h.one (zD5 s)
def zA7 (l:List Nat):List Nat:=sorted (fun i=>l.getD i 0) l.length
theorem zCl (l:List Nat):Vec l (zA7 l):=⟨sorted_perm _ _,zGc _ _⟩
theorem zVf {p q:Nat->Bool} (h:∀x,p x=true->q x=true->False):∀l:List Nat,l.countP (fun x=>p x||q x)=l.countP p+l.countP q
 |[]=>rfl
 |x::r=>by
  rw[List.countP_cons,List.countP_cons,List.countP_cons,zVf h r]
  cases hp:p x<;>cases hq:q x<;>simp[hp,hq]<;>try omega
  exact absurd hq (by have:=h x hp;simpa using this)
def A (l:List Nat) (c:Nat):Nat:=(List.range l.length).countP fun j=>decide (l.getD j 0<c)
def E (l:List Nat) (i c:Nat):Nat:=(List.range i).countP fun j=>l.getD j 0==c
theorem zYq (l:List Nat) (c:Nat):E l 0 c=0:=rfl
theorem zR9 (l:List Nat) (i c:Nat):E l (i+1) c=E l i c+if l.getD i 0=c then 1 else 0:=by
 unfold E
 rw[List.range_succ,List.countP_append,List.countP_singleton]
 simp
theorem qGu (l:List Nat):A l 0=0:=by
 unfold A
 rw[List.countP_eq_zero]
 intro x _;simp
theorem qGv (l:List Nat) (c:Nat):A l (c+1)=A l c+E l l.length c:=by
 unfold A E
 rw[<-zVf (fun x h1 h2=>by simp at h1 h2;omega)]
 congr 1
 funext j
 rw[Bool.eq_iff_iff]
 simp;omega
theorem qH2 (l:List Nat) (i c:Nat):E l i c<=i:=by
 unfold E
 have:=List.countP_le_length (p:=fun j=>l.getD j 0==c) (l:=List.range i)
 rwa[List.length_range]at this
theorem qH3 (l:List Nat) (c:Nat):A l c<=l.length:=by
 unfold A
 have:=List.countP_le_length (p:=fun j=>decide (l.getD j 0<c)) (l:=List.range l.length)
 rwa[List.length_range]at this
def pos (l:List Nat) (i:Nat):Nat:=A l (l.getD i 0)+E l i (l.getD i 0)
def bef (l:List Nat) (i j:Nat):Bool:=decide (l.getD j 0<l.getD i 0)||(l.getD j 0==l.getD i 0&&decide (j<i))
theorem zW4 (l:List Nat) (i:Nat) (hi:i<=l.length):pos l i=(List.range l.length).countP (bef l i):=by
 unfold bef
 rw[zVf (fun x h1 h2=>by simp at h1 h2;omega)]
 unfold pos A
 congr 1
 have e:List.range l.length=List.range i++List.range' i (l.length-i):=by
  rw[List.range_eq_range',List.range_eq_range',show l.length=i+(l.length-i)by omega,<-List.range'_append_1]
  simp
 rw[e,List.countP_append]
 have h1:(List.range' i (l.length-i)).countP (fun j=>l.getD j 0==l.getD i 0&&decide (j<i))=0:=by
  rw[List.countP_eq_zero]
  intro x hx
  have:=(List.mem_range'_1.1 hx).1
  simp;omega
 rw[h1,Nat.add_zero]
 unfold E
 refine List.countP_congr fun x hx=> ?_
 have:=List.mem_range.1 hx
 simp;omega
theorem zKv:∀(v:List Nat) (p:Nat) (hp:p<v.length),By f v->v.countP (fun j=>decide (f j<f v[p])||(f j==f v[p]&&decide (j<v[p])))=p
 |[],p,hp,_=>by simp at hp
 |x::r,0,hp,h=>by
  obtain⟨h1,h2⟩:=List.pairwise_cons.1 h
  rw[List.countP_eq_zero]
  intro y hy
  rcases List.mem_cons.1 hy with rfl|hy
  ·simp
  ·have:=h1 y hy
   simp;omega
 |x::r,p+1,hp,h=>by
  obtain⟨h1,h2⟩:=List.pairwise_cons.1 h
  have hp':p<r.length:=by simpa using hp
  have:=zKv r p hp' h2
  have hx:=h1 r[p] (List.getElem_mem hp')
  rw[List.countP_cons]
  simp only[List.getElem_cons_succ]
  rw[this]
  have:(decide (f x<f r[p])||(f x==f r[p]&&decide (x<r[p])))=true:=by simp;omega
  rw[if_pos this]
theorem zJf (l:List Nat) (p:Nat) (hp:p<l.length):pos l ((zA7 l).getD p 0)=p:=by
 have hl:(zA7 l).length=l.length:=zCn _ _
 have hp':p<(zA7 l).length:=by omega
 have hm:=(zCl l).perm.mem_iff.1 (List.getElem_mem hp')
 rw[show(zA7 l).getD p 0=(zA7 l)[p]by simp[List.getD_eq_getElem?_getD,List.getElem?_eq_getElem hp']]
 rw[zW4 l _ (Nat.le_of_lt (List.mem_range.1 hm)),<-(zCl l).perm.countP_eq]
 exact zKv (f:=fun i=>l.getD i 0) (zA7 l) p hp' (zCl l).by_
theorem qFc (l:List Nat) (i:Nat) (hi:i<l.length):pos l i<l.length:=by
 have hm:=(zCl l).perm.mem_iff.2 (List.mem_range.2 hi)
 obtain⟨p,hp,e⟩:=List.getElem_of_mem hm
 have hl:(zA7 l).length=l.length:=zCn _ _
 have:=zJf l p (by omega)
 rw[show(zA7 l).getD p 0=(zA7 l)[p]by simp[List.getD_eq_getElem?_getD,List.getElem?_eq_getElem hp],e]at this
 omega
theorem qEl (l o:List Nat) (hl:o.length=l.length) (h:∀i,i<l.length->o.getD (pos l i) 0=i):o=zA7 l:=by
 have hv:(zA7 l).length=l.length:=zCn _ _
 apply List.ext_getElem (by omega)
 intro p h1 h2
 have hm:=List.mem_range.1 ((zCl l).perm.mem_iff.1 (List.getElem_mem h2))
 have e1:=zJf l p (by omega)
 have e2:=h _ hm
 rw[show(zA7 l).getD p 0=(zA7 l)[p]by simp[List.getD_eq_getElem?_getD,List.getElem?_eq_getElem h2]]at e1
 rw[e1]at e2
 rw[<-e2]
 simp[List.getD_eq_getElem?_getD,List.getElem?_eq_getElem h1]
theorem qC0 (l:List Nat) (i j:Nat) (hi:i<l.length) (hj:j<l.length) (e:pos l i=pos l j):i=j:=by
 obtain⟨p,hp,e1⟩:=List.getElem_of_mem ((zCl l).perm.mem_iff.2 (List.mem_range.2 hi))
 obtain⟨q,hq,e2⟩:=List.getElem_of_mem ((zCl l).perm.mem_iff.2 (List.mem_range.2 hj))
 have hv:(zA7 l).length=l.length:=zCn _ _
 have h1:=zJf l p (by omega)
 have h2:=zJf l q (by omega)
 rw[show(zA7 l).getD p 0=(zA7 l)[p]by simp[List.getD_eq_getElem?_getD,List.getElem?_eq_getElem hp],e1]at h1
 rw[show(zA7 l).getD q 0=(zA7 l)[q]by simp[List.getD_eq_getElem?_getD,List.getElem?_eq_getElem hq],e2]at h2
 have:p=q:=by omega
 subst this
 rw[<-e1,<-e2]
end Tn
namespace Tn
variable {s o:List Nat} {f K:Nat->Nat} {M m p q n:Nat}
theorem qCe (a b:Int):Lib.compareInt a b<0↔a<b:=by
 unfold Lib.compareInt
 split
 ·rename_i h;constructor<;>intro _<;>omega
 ·split
  ·rename_i h1 h2;constructor<;>intro _<;>omega
  ·rename_i h1 h2;constructor<;>intro _<;>omega
theorem zNv (a b:Int):Lib.compareInt a b=0↔a=b:=by
 unfold Lib.compareInt
 split
 ·rename_i h;constructor<;>intro _<;>omega
 ·split
  ·rename_i h1 h2;constructor<;>intro _<;>omega
  ·rename_i h1 h2;constructor<;>intro _<;>omega
def cf2 (n m:Nat) (f:Nat->Nat) (i j:Nat):Int:=if Lib.compareInt (f i:Int) (f j:Int)=0 then Lib.compareInt (f ((i+m)%n):Int) (f ((j+m)%n):Int)else Lib.compareInt (f i:Int) (f j:Int)
theorem zYi (n m:Nat) (f:Nat->Nat) (i j:Nat):cf2 n m f i j<0↔f i<f j\/(f i=f j/\f ((i+m)%n)<f ((j+m)%n)):=by
 unfold cf2
 have h0:=zNv (f i:Int) (f j:Int)
 split
 ·rename_i h
  rw[qCe]
  have:=h0.1 h
  omega
 ·rename_i h
  rw[qCe]
  have:(f i:Int)≠(f j:Int):=fun e=>h (h0.2 e)
  omega
theorem qBe (n m:Nat) (f:Nat->Nat) (i j:Nat):cf2 n m f i j=0↔f i=f j/\f ((i+m)%n)=f ((j+m)%n):=by
 unfold cf2
 have h0:=zNv (f i:Int) (f j:Int)
 split
 ·rename_i h
  rw[zNv]
  have:=h0.1 h
  omega
 ·rename_i h
  constructor
  ·intro e;exact absurd e h
  ·intro e;exact absurd (h0.2 (by omega)) h
def Rk (s:List Nat) (f:Nat->Nat) (M:Nat):Prop:=∀a b,a<s.length->b<s.length->(f a<f b↔C s M a<C s M b)
theorem Rk.eq (h:Rk s f M) {a b:Nat} (ha:a<s.length) (hb:b<s.length):f a=f b↔C s M a=C s M b:=by
 have h1:=h a b ha hb
 have h2:=h b a hb ha
 omega
def up1 (m:Nat):Nat:=max m 1
def up2 (m:Nat):Nat:=max (2*m) 1
theorem zUr (hs:Bytes s) (h:Rk s f (up1 m)) (i j:Nat) (hi:i<s.length) (hj:j<s.length):cf2 s.length m f i j<0↔C s (up2 m) i<C s (up2 m) j:=by
 rw[zYi]
 have h0:0<s.length:=by omega
 have q1:=h i j hi hj
 have q2:=h.eq hi hj
 have q3:=h ((i+m)%s.length) ((j+m)%s.length) (Nat.mod_lt _ h0) (Nat.mod_lt _ h0)
 rw[zV0,zV0]at q3
 by_cases hm:m=0
 ·subst hm
  simp only[up1,up2,Nat.add_zero]at*
  rw[Nat.mod_eq_of_lt hi,Nat.mod_eq_of_lt hj]
  rw[show max (2*0) 1=max 0 1 from rfl,<-q1]
  omega
 ·have e1:up1 m=m:=by unfold up1;omega
  have e2:up2 m=m+m:=by unfold up2;omega
  rw[e1]at q1 q2 q3
  rw[e2,qGs hs,q1,q2,q3]
theorem qCw (hs:Bytes s) (h:Rk s f (up1 m)) (i j:Nat) (hi:i<s.length) (hj:j<s.length):cf2 s.length m f i j=0↔C s (up2 m) i=C s (up2 m) j:=by
 have q1:=zUr hs h i j hi hj
 have q2:=zUr hs h j i hj hi
 rw[zYi]at q1 q2
 rw[qBe]
 omega
theorem zZo (h:∀k,k<s.length->f k=s.getD k 0):Rk s f (up1 0):=by
 intro a b ha hb
 have e:∀k,k<s.length->C s (up1 0) k=s.getD k 0:=fun k hk=>by
  show C s 0 k*256+cyc s (k+0)=_
  rw[C,Nat.zero_mul,Nat.zero_add,Nat.add_zero]
  unfold cyc
  rw[Nat.mod_eq_of_lt hk]
 rw[h a ha,h b hb,e a ha,e b hb]
def rkP (K:Nat->Nat) (o:List Nat):Nat->Nat
 |0=>0
 |p+1=>rkP K o p+if K (o.getD p 0)=K (o.getD (p+1) 0)then 0 else 1
theorem By.getD (h:By K o) (hpq:p<q) (hq:q<o.length):K (o.getD p 0)<=K (o.getD q 0):=by
 unfold By at h
 rw[List.pairwise_iff_getElem]at h
 have h1:=h p q (by omega) hq hpq
 rw[List.getD_eq_getElem?_getD,List.getD_eq_getElem?_getD,List.getElem?_eq_getElem hq,List.getElem?_eq_getElem (show p<o.length by omega)]
 simp only[Option.getD_some]
 omega
theorem zWz (K:Nat->Nat) (o:List Nat):∀p,rkP K o p<=p
 |0=>Nat.le_refl _
 |p+1=>by have:=zWz K o p;rw[rkP];split<;>omega
theorem zK6 (h:By K o) (p:Nat):∀d,p+d<o.length->rkP K o p<=rkP K o (p+d)/\(rkP K o p=rkP K o (p+d)↔K (o.getD p 0)=K (o.getD (p+d) 0))
 |0,_=>by simp
 |d+1,hd=>by
  obtain⟨h1,h2⟩:=zK6 h p d (by omega)
  have h3:K (o.getD p 0)<=K (o.getD (p+d) 0):=by
   rcases Nat.eq_zero_or_pos d with e|e
   ·subst e;exact Nat.le_refl _
   ·exact h.getD (by omega) (by omega)
  have h4:=h.getD (p:=p+d) (q:=p+(d+1)) (by omega) hd
  have e:rkP K o (p+(d+1))=rkP K o (p+d)+if K (o.getD (p+d) 0)=K (o.getD (p+(d+1)) 0)then 0 else 1:=rfl
  rw[e]
  split
  ·rename_i h5;omega
  ·rename_i h5;omega
theorem qF (h:By K o) (p q:Nat) (hp:p<o.length) (hq:q<o.length):rkP K o p<rkP K o q↔K (o.getD p 0)<K (o.getD q 0):=by
 rcases Nat.lt_or_ge p q with hpq|hpq
 ·obtain⟨h1,h2⟩:=zK6 h p (q-p) (by omega)
  rw[show p+(q-p)=q by omega]at h1 h2
  have:=h.getD hpq hq
  omega
 ·obtain⟨h1,h2⟩:=zK6 h q (p-q) (by omega)
  rw[show q+(p-q)=p by omega]at h1 h2
  rcases Nat.lt_or_ge q p with hqp|hqp
  ·have:=h.getD hqp hp
   omega
  ·have:p=q:=by omega
   subst this
   omega
theorem zTn (hp:o.Perm (List.range n)) (a:Nat) (ha:a<n):∃p,p<o.length/\o.getD p 0=a:=by
 have h1:a∈o:=hp.mem_iff.2 (List.mem_range.2 ha)
 obtain⟨p,hp,e⟩:=List.getElem_of_mem h1
 exact⟨p,hp,by rw[List.getD_eq_getElem?_getD,List.getElem?_eq_getElem hp];exact e⟩
theorem zNc (hp:o.Perm (List.range n)) (p:Nat) (h:p<o.length):o.getD p 0<n:=by
 have h1:o.getD p 0∈o:=by
  rw[List.getD_eq_getElem?_getD,List.getElem?_eq_getElem h];exact List.getElem_mem h
 exact List.mem_range.1 (hp.mem_iff.1 h1)
theorem zOo (hn:o.Nodup) (h1:p<o.length) (h2:q<o.length) (e:o[p]=o[q]):p=q:=by
 have h:=List.pairwise_iff_getElem.1 hn
 rcases Nat.lt_trichotomy p q with h3|h3|h3
 ·exact absurd e (h p q h1 h2 h3)
 ·exact h3
 ·exact absurd e.symm (h q p h2 h1 h3)
theorem zQw (hp:o.Perm (List.range n)) (h1:p<o.length) (h2:q<o.length) (e:o.getD p 0=o.getD q 0):p=q:=by
 have hn:o.Nodup:=hp.nodup_iff.2 List.nodup_range
 rw[List.getD_eq_getElem?_getD,List.getD_eq_getElem?_getD,List.getElem?_eq_getElem h1,List.getElem?_eq_getElem h2]at e
 exact zOo hn h1 h2 e
theorem qCx {F:Nat->Nat} (hp:o.Perm (List.range s.length)) (hb:By (C s M) o) (hF:∀p,p<o.length->F (o.getD p 0)=rkP (C s M) o p):Rk s F M:=by
 intro a b ha hb'
 obtain⟨p,h1,rfl⟩:=zTn hp a ha
 obtain⟨q,h2,rfl⟩:=zTn hp b hb'
 rw[hF p h1,hF q h2]
 exact qF hb p q h1 h2
theorem qCy (hs:Bytes s) (hp:o.Perm (List.range s.length)) (hb:By (C s M) o) (hM:s.length<=M):o=zHx s:=
 (Order.eq ⟨hp,hb.congr (fun a _ b _=>qBw hs M a b hM)⟩)
end Tn
end Go.Proofs.YtppnakkaljbmbaaGreatDoor
