/- Steps of a proof; no condition beyond what each states. -/
import Derived.RangeFuncCalls
import Derived.Test.YtppnakkaljbmbaaGreatDoorZU10
set_option linter.unusedVariables false
set_option linter.unusedSimpArgs false
set_option maxRecDepth 100000
set_option maxHeartbeats 8000000
namespace Go.Proofs.YtppnakkaljbmbaaGreatDoor
namespace Wg
open Hf Go.Sort
section
variable {α:Type} {lt:α->α->Bool} {n i:Nat} {f g:Nat->α}
theorem zR0 (h:SWO lt) {x y:α} (hxy:lt x y=true):lt y x=false:=by
 cases hyx:lt y x with
 |false=>rfl
 |true=>
  have:=h.trans x y x hxy hyx
  rw[h.irrefl]at this
  cases this
def Hp (lt:α->α->Bool) (n:Nat) (f:Nat->α):Prop:=∀k,0<k->k<n->lt (f k) (f ((k-1)/2))=false
structure Up (lt:α->α->Bool) (n i:Nat) (f:Nat->α):Prop where
 ok:∀k,0<k->k<n->k≠i->lt (f k) (f ((k-1)/2))=false
 kid:∀k,0<k->k<n->(k-1)/2=i->0<i->lt (f k) (f ((i-1)/2))=false
theorem Up.start (h:Hp lt n f) (e:∀k,k<n->g k=f k):Up lt (n+1) n g:=by
 refine⟨fun k h0 h1 h2=> ?_,fun k h0 h1 h2 h3=>by omega⟩
 rw[e k (by omega),e ((k-1)/2) (by omega)]
 exact h k h0 (by omega)
theorem Up.stop (h:Up lt n i f) (hs:i=0\/lt (f i) (f ((i-1)/2))=false):Hp lt n f:=by
 intro k h0 h1
 by_cases e:k=i
 ·subst e
  rcases hs with hs|hs
  ·omega
  ·exact hs
 ·exact h.ok k h0 h1 e
theorem Up.step (hS:SWO lt) (h:Up lt n i f) (hi:0<i) (hin:i<n) (hl:lt (f i) (f ((i-1)/2))=true)
  (e1:g i=f ((i-1)/2)) (e2:g ((i-1)/2)=f i) (e3:∀k,k≠i->k≠(i-1)/2->g k=f k):Up lt n ((i-1)/2) g:=by
 obtain⟨u,hu⟩:=zB ((i-1)/2)
 rw[hu]at hl e1 e2 e3⊢
 refine⟨fun k h0 h1 h2=> ?_,fun k h0 h1 h2 h3=> ?_⟩
 ·by_cases c1:k=i
  ·subst c1
   rw[e1,hu,e2]
   exact zR0 hS hl
  ·rw[e3 k c1 h2]
   by_cases c2:(k-1)/2=u
   ·rw[c2,e2]
    have:=h.ok k h0 h1 c1
    rw[c2]at this
    exact hS.ntrans _ _ _ this (zR0 hS hl)
   ·by_cases c3:(k-1)/2=i
    ·rw[c3,e1]
     have:=h.kid k h0 h1 c3 hi
     rwa[hu]at this
    ·rw[e3 _ c3 c2]
     exact h.ok k h0 h1 c1
 ·have h4:lt (f u) (f ((u-1)/2))=false:=h.ok u h3 (by omega) (by omega)
  rw[e3 ((u-1)/2) (by omega) (by omega)]
  by_cases c1:k=i
  ·subst c1
   rw[e1];exact h4
  ·rw[e3 k c1 (by omega)]
   have:=h.ok k h0 h1 c1
   rw[h2]at this
   exact hS.ntrans _ _ _ this h4
structure Dn (lt:α->α->Bool) (n i:Nat) (f:Nat->α):Prop where
 ok:∀k,0<k->k<n->(k-1)/2≠i->lt (f k) (f ((k-1)/2))=false
 kid:∀k,0<k->k<n->(k-1)/2=i->0<i->lt (f k) (f ((i-1)/2))=false
theorem Dn.start (h:Hp lt (n+1) f) (e:∀k,0<k->k<n->g k=f k):Dn lt n 0 g:=by
 refine⟨fun k h0 h1 h2=> ?_,fun k h0 h1 h2 h3=>by omega⟩
 rw[e k h0 h1,e ((k-1)/2) (by omega) (by omega)]
 exact h k h0 (by omega)
theorem Dn.stop (h:Dn lt n i f) (hs:∀k,0<k->k<n->(k-1)/2=i->lt (f k) (f i)=false):Hp lt n f:=by
 intro k h0 h1
 by_cases e:(k-1)/2=i
 ·rw[e];exact hs k h0 h1 e
 ·exact h.ok k h0 h1 e
theorem Dn.step (hS:SWO lt) (h:Dn lt n i f) {c:Nat} (hc0:0<c) (hcn:c<n) (hci:(c-1)/2=i) (hl:lt (f c) (f i)=true) (hm:∀k,0<k->k<n->(k-1)/2=i->lt (f k) (f c)=false)
  (e1:g i=f c) (e2:g c=f i) (e3:∀k,k≠i->k≠c->g k=f k):Dn lt n c g:=by
 refine⟨fun k h0 h1 h2=> ?_,fun k h0 h1 h2 h3=> ?_⟩
 ·by_cases c1:k=c
  ·subst c1
   rw[e2,hci,e1]
   exact zR0 hS hl
  ·by_cases c2:(k-1)/2=i
   ·rw[c2,e1,e3 k (by omega) c1]
    exact hm k h0 h1 c2
   ·rw[e3 ((k-1)/2) c2 h2]
    by_cases c3:k=i
    ·subst c3
     rw[e1]
     exact h.kid c hc0 hcn hci h0
    ·rw[e3 k c3 c1]
     exact h.ok k h0 h1 c2
 ·rw[hci,e1,e3 k (by omega) (by omega)]
  have:=h.ok k h0 h1 (by omega)
  rwa[h2]at this
theorem Hp.min (hS:SWO lt) (h:Hp lt n f):∀k,k<n->lt (f k) (f 0)=false:=by
 intro k
 induction k using Nat.strongRecOn with
 |_ k ih=>
  intro hk
  by_cases h0:k=0
  ·subst h0;exact hS.irrefl _
  ·exact hS.ntrans _ _ _ (h k (by omega) hk) (ih ((k-1)/2) (by omega) (by omega))
end
def lq (a b:Nat×Nat):Bool:=decide (a.1<b.1)||(a.1==b.1&&decide (a.2<b.2))
theorem zNj {a b:Nat×Nat}:lq a b=true↔a.1<b.1\/(a.1=b.1/\a.2<b.2):=by simp[lq]
theorem zH1 {a b:Nat×Nat}:lq a b=false↔b.1<a.1\/(a.1=b.1/\b.2<=a.2):=by
 rw[<-Bool.not_eq_true,zNj];omega
theorem zF3:SWO lq:=by
 refine⟨fun x=> ?_,fun x y z h1 h2=> ?_,fun x y z h1 h2=> ?_⟩
 ·rw[zH1];omega
 ·rw[zNj]at*;omega
 ·rw[zH1]at*;omega
def pr (e:Q):Nat×Nat:=(e.w,e.x)
theorem zO0 {l:List (Nat×Nat)} {q:List Q} {a:Q} {r:List Q} {x:Nat×Nat} (hp:l.Perm (q.map pr)) (hq:q=a::r) (hs:q.Pairwise before) (hx:x∈l) (hm:∀y∈l,lq y x=false):x=pr a:=by
 subst hq
 have h1:x∈(a::r).map pr:=hp.mem_iff.1 hx
 rw[List.map_cons]at h1
 rcases List.mem_cons.1 h1 with e|h1
 ·exact e
 ·obtain⟨b,hb,rfl⟩:=List.mem_map.1 h1
  have h2:=(List.pairwise_cons.1 hs).1 b hb
  have h3:=hm (pr a) (hp.mem_iff.2 (by simp))
  rw[zH1]at h3
  unfold before at h2
  simp only[pr]at h3
  omega
def sw (l:List (Nat×Nat)) (i j:Nat):List (Nat×Nat):=(l.set i (l.getD j (0,0))).set j (l.getD i (0,0))
theorem zWo (l:List (Nat×Nat)) (i j:Nat):(sw l i j).length=l.length:=by simp[sw]
theorem zTd (l:List (Nat×Nat)) (i j:Nat) (hi:i<l.length) (hj:j<l.length):(sw l i j).Perm l:=by
 have:=perm_set_set l i j hi hj
 unfold sw
 rw[List.getD_eq_getElem?_getD,List.getD_eq_getElem?_getD,List.getElem?_eq_getElem hi,List.getElem?_eq_getElem hj]
 exact this
theorem qEy (l:List (Nat×Nat)) (i j:Nat) (hi:i<l.length) (hij:i≠j):(sw l i j).getD i (0,0)=l.getD j (0,0):=by
 unfold sw
 rw[List.getD_eq_getElem?_getD,List.getElem?_set_ne (Ne.symm hij),List.getElem?_set_self hi]
 rfl
theorem qEw (l:List (Nat×Nat)) (i j:Nat) (hj:j<l.length):(sw l i j).getD j (0,0)=l.getD i (0,0):=by
 unfold sw
 rw[List.getD_eq_getElem?_getD,List.getElem?_set_self (by simpa using hj)]
 rfl
theorem qEx (l:List (Nat×Nat)) (i j k:Nat) (hi:k≠i) (hj:k≠j):(sw l i j).getD k (0,0)=l.getD k (0,0):=by
 unfold sw
 rw[List.getD_eq_getElem?_getD,List.getElem?_set_ne (Ne.symm hj),List.getElem?_set_ne (Ne.symm hi),<-List.getD_eq_getElem?_getD]
def at_ (l:List (Nat×Nat)) (k:Nat):Nat×Nat:=l.getD k (0,0)
def zEa (l:List (Nat×Nat)):List (Nat×Nat):=(l.set 0 (l.getD (l.length-1) (0,0))).take (l.length-1)
theorem qBb (l:List (Nat×Nat)):(zEa l).length=l.length-1:=by simp[zEa]
theorem qE (l:List (Nat×Nat)) (k:Nat) (h0:0<k) (hk:k<l.length-1):at_ (zEa l) k=at_ l k:=by
 unfold at_ zEa
 rw[List.getD_eq_getElem?_getD,List.getElem?_take_of_lt hk,List.getElem?_set_ne (by omega),<-List.getD_eq_getElem?_getD]
theorem zYa:∀l:List (Nat×Nat),l≠[]->l.Perm (at_ l 0::zEa l)
 |[],h=>absurd rfl h
 |[x],_=>by simp[at_,zEa]
 |x::y::r,_=>by
  have e:zEa (x::y::r)=(y::r).getLast (by simp)::(y::r).dropLast:=by
   unfold zEa
   rw[List.set_cons_zero,show(x::y::r).length-1=r.length+1 by simp,List.take_succ_cons,List.dropLast_eq_take]
   congr 1
   rw[List.getD_eq_getElem?_getD,List.getLast_eq_getElem]
   simp
  rw[e]
  refine List.Perm.cons _ ?_
  have h1:=List.dropLast_concat_getLast (l:=y::r) (by simp)
  conv=>lhs;rw[<-h1]
  exact List.perm_append_comm
def Sat (up:Nat->Nat) (q:List Q) (n:Nat) (D:Nat->Nat):Prop:=∀x,x<n->x∉q.map Q.x->D x=D (up x)+1
def Good (up:Nat->Nat) (q:List Q) (n:Nat):Prop:=∀D,Sat up q n D->∀e∈q,∀p∈e.t.leaves,D p.1=D e.x+p.2
theorem Good.start {up:Nat->Nat} {q:List Q} {n:Nat} (h:∀e∈q,e.t= .leaf e.x):Good up q n:=by
 intro D _ e he p hp
 rw[h e he]at hp
 simp[Tr.leaves]at hp
 subst hp
 rfl
theorem Good.join {up up':Nat->Nat} {a b:Q} {r:List Q} {n:Nat} (h:Good up (a::b::r) n) (hb:∀e∈a::b::r,e.x<n) (hd:((a::b::r).map Q.x).Nodup)
  (ea:up' a.x=n) (eb:up' b.x=n) (eo:∀x,x≠a.x->x≠b.x->up' x=up x):Good up' (ins ⟨a.w+b.w,n,.node a.t b.t⟩ r) (n+1):=by
 intro D hs
 have hp:=zBh ⟨a.w+b.w,n,.node a.t b.t⟩ r
 have hm:∀x,x∈(ins ⟨a.w+b.w,n,.node a.t b.t⟩ r).map Q.x↔x=n\/x∈r.map Q.x:=by
  intro x
  rw[(hp.map Q.x).mem_iff,List.map_cons,List.mem_cons]
 simp only[List.map_cons,List.nodup_cons,List.mem_cons,not_or]at hd
 obtain⟨⟨d1,d2⟩,d3,d4⟩:=hd
 have la:=hb a (by simp)
 have lb:=hb b (by simp)
 have s1:Sat up (a::b::r) n D:=by
  intro x hx hq
  simp only[List.map_cons,List.mem_cons,not_or]at hq
  have:=hs x (by omega) (by rw[hm];rintro(e|e);omega;exact hq.2.2 e)
  rwa[eo x hq.1 hq.2.1]at this
 have da:D a.x=D n+1:=by
  have:=hs a.x (by omega) (by rw[hm];rintro(e|e);omega;exact d2 e)
  rwa[ea]at this
 have db:D b.x=D n+1:=by
  have:=hs b.x (by omega) (by rw[hm];rintro(e|e);omega;exact d3 e)
  rwa[eb]at this
 intro e he p hpl
 rcases List.mem_cons.1 (hp.mem_iff.1 he)with rfl|he
 ·simp only[Tr.leaves,List.mem_map,List.mem_append]at hpl
  obtain⟨p',hp',rfl⟩:=hpl
  show D p'.1=D n+(p'.2+1)
  rcases hp' with hp'|hp'
  ·have:=h D s1 a (by simp) p' hp'
   rw[this,da];omega
  ·have:=h D s1 b (by simp) p' hp'
   rw[this,db];omega
 ·exact h D s1 e (by simp[he]) p hpl
theorem qA1 {up:Nat->Nat} {e:Q} {n:Nat} {D:Nat->Nat} (h:Good up [e] (n+1)) (hx:e.x=n) (h0:D n=0) (hD:∀x,x<n->D x=D (up x)+1):∀p∈e.t.leaves,D p.1=p.2:=by
 intro p hp
 have:=h D (fun x h1 h2=>hD x (by simp at h2;omega)) e (by simp) p hp
 rw[this,hx,h0];omega
theorem qDd {ws:List Nat} {D:Nat->Nat} (h1:1<=ws.length) (hpos:∀w∈ws,1<=w) (hD:∀p∈(tree ws).leaves,D p.1=p.2) (i:Nat) (hi:i<ws.length):(lens ws)[i]? =some (D i):=by
 have hn:=(zN9 ws h1 hpos).1
 have hm:i∈(tree ws).names:=hn.mem_iff.2 (List.mem_range.2 hi)
 unfold Tr.names at hm
 obtain⟨p,hp,rfl⟩:=List.mem_map.1 hm
 unfold lens
 rw[List.getElem?_map,List.getElem?_range hi,Option.map_some,zKs (hn.nodup_iff.2 List.nodup_range) hp,hD p hp]
end Wg
namespace Kit
open Go.RowKit
section
variable {P:Program} {ops:Array Oper} {Q:Exit->Act->World->Prop} {md:Region.Mode}
theorem zSk {n:Nat} {row:String} {args:Array Value} {w:World} {R:Value->World->Prop} (l:Nat) (h:Rows P row args w R):RowsIn (Fence.wide.inRound l) n P row args w R:=by
 intro c cs _
 obtain⟨v,w',r,s⟩:=h c cs
 exact⟨v,w',r,stepsIn_wide.2 s⟩
def zDy (Q:Exit->Act->World->Prop):Exit->Act->World->Prop
 | .outgrown,_,_=>False
 |e,a,w=>Q e a w
theorem zGa:¬LetsOut (zDy Q):=fun⟨_,_,h⟩=>h
theorem qCo (l n:Nat) {o:Oper} {a:Act} {K:Act->World->Prop}:∀{r:Result Next},o.upon P a K (zDy Q) r->o.uponIn (Fence.wide.inRound l) n P a K Q r
 | .ok (.value v) w',h=>h
 | .ok .skip w',h=>h
 | .ok (.defer d) w',h=>h
 | .ok (.enter f args) w',h=>⟨(fun hd=>by cases hd),CallsIn.inRound l (callsIn_wide.2 (Calls.mono h (fun e w'' he=>by
   cases e with
   |returned v=>exact he
   |panicked c=>exact he
   |outgrown=>exact(zGa he).elim)))⟩
 | .ok (.row row args) w',h=>⟨(fun hd=>by cases hd),zSk l h⟩
 | .ok (.round _ _ _ _ _) w',h=>h.elim
 | .halt (.panic v) w',h=>h
theorem qHd (l n:Nat) {o:Oper} {a:Act} {w:World} {K:Act->World->Prop} (hd:∀c,o.op≠ .defer c) (h:Oper.wp P o a w K (zDy Q)):o.wpIn (Fence.wide.inRound l) n P a w K Q:=by
 unfold Oper.wpIn
 refine⟨fun _ _=>trivial,?_⟩
 rw[Oper.semAt_plain _ _ _ hd]
 exact qCo l n h
theorem zMx (l n:Nat) (hd:∀(i:Nat) (o:Oper),ops[i]? =some o->∀c,o.op≠ .defer c):∀(fuel:Nat) (listed:Array Bool) (a:Act) (w:World),wpAny P md ops (zDy Q) fuel listed a w->wpAnyIn (Fence.wide.inRound l) n P md ops Q fuel listed a w
 |0,_,_,_,h=>h
 |fuel+1,listed,a,w,h=>by
  refine⟨h.1,fun i hi=> ?_⟩
  have hop:=h.2 i hi
  unfold wpOp at hop
  unfold wpOpIn
  cases ho:ops[i]? with
  |none=>rw[ho]at hop;exact zMx l n hd fuel _ _ _ hop
  |some o=>
   rw[ho]at hop
   simp only at hop⊢
   split at hop
   ·next hw=>rw[if_pos hw];exact Oper.wpIn_mono (fun a w=>zMx l n hd fuel _ a w) (qHd l n (hd i o ho) (hop.resolve_right (fun h=>zGa h.2)))
   ·next hw=>rw[if_neg hw];exact⟨fun _ _=>trivial,zMx l n hd fuel _ _ _ hop⟩
def zJu (ops:Array Oper):Bool:=ops.all fun o=>match o.op with
 | .defer _=>false
 |_=>true
theorem zKq {id l n:Nat} {a:Act} {w:World} (hm:P.follows .mixedOrders=true) (hd:zJu ops=true) (h:wpAny P .any ops (zDy Q) ops.size (Array.replicate ops.size false) a w.drew):(Code.region id ops true).wpIn (Fence.wide.inRound l) n P Q a w:=by
 refine wpIn_region_any hm (zMx l n (fun i o hi c hc=> ?_) _ _ _ _ h)
 have h1:=(Array.all_eq_true_iff_forall_mem.1 hd) o (Array.mem_of_getElem? hi)
 rw[hc]at h1
 cases h1
theorem zRj {S:World->Prop} {id l n:Nat} {a:Act} {w:World} (hm:P.follows .mixedOrders=true) (hd:zJu ops=true) (hS:S w.drew) (h:S w.drew->wpAnyH P .any ops (zDy Q) S ops.size (Array.replicate ops.size false) a w.drew):(Code.region id ops true).wpIn (Fence.wide.inRound l) n P Q a w:=
 zKq hm hd (wpAny_of_held _ _ _ _ (h hS))
theorem zX8 {S:World->Prop} (i:Nat) {fuel:Nat} {listed:Array Bool} {a:Act} {w:World} {ty:TypeId} {x:Operand} {d:Option Tmp} {g:Addr} {v:Value} (hr:Region.ready md ops listed=[i])
  (ho:(ops[i]?).map (fun o=>(o.op,o.dst))=some (.load ty x,d)) (hw:(ops[i]?).map (fun o=>Region.wanted o (yielded ops a.tmps))=some true)
  (hx:a.eval x= .pointer (some g)) (hl:(loadVar ty g).run P w= .ok v w) (hS:S w) (h:wpAnyH P md ops Q S fuel (listed.setIfInBounds i true) (a.put d v) w):wpAnyH P md ops Q S (fuel+1) listed a w:=by
 refine wpAnyH_all hr (by simp) (fun j hj=> ?_)
 obtain rfl:=List.mem_singleton.1 hj
 unfold wpOp
 cases hi:ops[j]? with
 |none=>rw[hi]at ho;cases ho
 |some o=>
  rw[hi]at ho hw
  simp only[Option.map_some,Option.some.injEq,Prod.mk.injEq]at ho hw
  simp only[hw,if_true]
  left
  unfold Oper.wp execOp
  simp only[ho.1,hx,Instr.loadAt,Instr.sureAddr,Sem.run_bind,Sem.run_pure,Result.andThen_ok,hl]
  show S w/\wpAnyH P md ops Q S fuel _ (a.put o.dst v) w
  rw[ho.2]
  exact⟨hS,h⟩
theorem zH9 {S:World->Prop} (i:Nat) {fuel:Nat} {listed:Array Bool} {a:Act} {w w':World} {ty:TypeId} {x y:Operand} {g:Addr} {v:Value} (hr:Region.ready md ops listed=[i])
  (ho:(ops[i]?).map (fun o=>(o.op,o.dst))=some (.store ty x y,none)) (hw:(ops[i]?).map (fun o=>Region.wanted o (yielded ops a.tmps))=some true)
  (hx:a.eval x= .pointer (some g)) (hy:a.eval y=v) (hst:(storeVar ty g v).run P w= .ok () w') (hS:S w') (h:S w'->wpAnyH P md ops Q S fuel (listed.setIfInBounds i true) a w'):wpAnyH P md ops Q S (fuel+1) listed a w:=by
 refine wpAnyH_all hr (by simp) (fun j hj=> ?_)
 obtain rfl:=List.mem_singleton.1 hj
 unfold wpOp
 cases hi:ops[j]? with
 |none=>rw[hi]at ho;cases ho
 |some o=>
  rw[hi]at ho hw
  simp only[Option.map_some,Option.some.injEq,Prod.mk.injEq]at ho hw
  simp only[hw,if_true]
  left
  unfold Oper.wp execOp
  simp only[ho.1,hx,hy,Instr.storeAt,Instr.sureAddr,Sem.run_bind,Sem.run_pure,Result.andThen_ok,hst]
  show S w'/\wpAnyH P md ops Q S fuel _ (a.put o.dst undef) w'
  rw[ho.2]
  exact⟨hS,h hS⟩
end
end Kit
namespace Wg
open Go.RowKit Hf Bt Zr Ix Front
variable {w w':World} {R c B n g:Nat} {a:Option Addr} {l:List (Nat×Nat)} {e:TypeId}
def tv (p:Nat×Nat):Value:= .agg #[.int .i64 (p.1:Int),.int .i64 (p.2:Int)]
def TL:Kit.Lay (Nat×Nat) where
 k:=2
 pos:=by omega
 cl:=fun p=>[.int .i64 (p.1:Int),.int .i64 (p.2:Int)]
 len:=fun _=>rfl
 one:=fun p v hv=>by
  simp at hv
  rcases hv with rfl|rfl<;>rfl
theorem zPg (p q:Nat×Nat) (w:World):
  Calls Tryz.prog 176 #[tv p,tv q] w fun e w'=>e= .returned (.bool (lq p q))/\Below w.heap.size w w':=by
 obtain⟨a,b⟩:=p
 obtain⟨c,d⟩:=q
 unfold tv
 have hb:Below w.heap.size w ((w.alloc (.cells #[.int .i64 (a:Int),.int .i64 (b:Int)] 295)).alloc (.cells #[.int .i64 (c:Int),.int .i64 (d:Int)] 295)):=
  ((Below.refl _ _).alloc (Nat.le_refl _) _).alloc (by simp) _
 obtain⟨B,hB⟩:=zB w.heap.size
 obtain⟨W1,hW1⟩:=zB (w.alloc (.cells #[.int .i64 (a:Int),.int .i64 (b:Int)] 295))
 have z1:W1.heap.size=B+1:=by rw[<-hW1,zA,hB]
 obtain⟨W2,hW2⟩:=zB (W1.alloc (.cells #[.int .i64 (c:Int),.int .i64 (d:Int)] 295))
 have k0:W2.heap[B]? =some (.cells #[.int .i64 (a:Int),.int .i64 (b:Int)] 295 (0,0)):=by
  rw[<-hW2,Lib.alloc_old W1 _ B (by omega),<-hW1,<-hB]
  show(w.heap.push _)[w.heap.size]? =_
  simp
 have k1:W2.heap[B+1]? =some (.cells #[.int .i64 (c:Int),.int .i64 (d:Int)] 295 (0,0)):=by
  rw[<-hW2,<-z1]
  show(W1.heap.push _)[W1.heap.size]? =_
  simp
 rw[hW1,hW2,hB]at hb
 obtain⟨x0,x1,_,_⟩:=zAf k0
 obtain⟨y0,y1,_,_⟩:=zAf k1
 have HB:=zH hb
 rw[hB]
 clear hb k0 k1
 obtain⟨r,hr⟩:=zB (lq (a,b) (c,d))
 rw[hr]
 have HR:=zH hr
 clear hr
 rcases Nat.lt_trichotomy a c with h|h|h
 ·have hd:decide (a<c)=true:=decide_eq_true h
  have e:r=true:=by rw[<-HR.out,zNj];exact .inl h
  subst e
  clear HR h
  go_enter Tryz.func176,Tryz.ntmps176
  go_wp2
  go_ret
  exact⟨rfl,HB.out⟩
 ·subst h
  have hd:decide (a<a)=false:=decide_eq_false (by omega)
  have e:decide (b<d)=r:=by rw[<-HR.out];unfold lq;simp
  clear HR
  go_enter Tryz.func176,Tryz.ntmps176
  go_wp2
  go_ret
  exact⟨rfl,HB.out⟩
 ·have hd:decide (a<c)=false:=decide_eq_false (by omega)
  have hd2:¬a=c:=by omega
  have e:r=false:=by rw[<-HR.out,zH1];exact .inl h
  subst e
  clear HR h
  go_enter Tryz.func176,Tryz.ntmps176
  go_wp2
  go_ret
  exact⟨rfl,HB.out⟩
abbrev TT:TypeId:=295
abbrev TQ:TypeId:=299
abbrev QF:Value:= .func (.func 176) #[] #[]
theorem qHe:Kit.zVx Tryz.prog 297 TT TL.k 16:=⟨Tryz.underlying297,.agg #[.int .i64 0,.int .i64 0],by kernel_rfl,rfl⟩
theorem qHi:(Tryz.prog.info? TT).map (·.size)=some TL.k:=by kernel_rfl
theorem szT:∀w,(sizeOf TT).run Tryz.prog w= .ok 2 w:=fun w=>Tryz.sizeOf295 w
theorem qBq:∀w,(isAgg TT).run Tryz.prog w= .ok true w:=fun w=>by kernel_rfl
structure Qu (w:World) (R:Nat) (a:Option Addr) (c:Nat) (l:List (Nat×Nat)):Prop where
 blk:w.heap[R]? =some (.cells #[.slice a l.length c,QF] TQ (0,0))
 own:Kit.Own' TL w (R+1) TT a l.length c l
theorem Qu.lt (h:Qu w R a c l):R<w.heap.size:=zAd h.blk
structure StT (w w':World) (R:Nat):Prop where
 old:∀k,k<w.heap.size->k≠R->(∀cs f,w.heap[k]?≠some (.cells cs TT f))->w'.heap[k]? =w.heap[k]?
 below:Below R w w'
theorem StT.trans {w'':World} (h:StT w w' R) (g:StT w' w'' R):StT w w'' R:=by
 refine⟨fun k h1 h2 h3=> ?_,h.below.trans g.below⟩
 have h4:=h.old k h1 h2 h3
 rw[g.old k (Nat.lt_of_lt_of_le h1 h.below.size) h2 (fun cs f=>by rw[h4];exact h3 cs f),h4]
theorem StT.of_below (hb:Below w.heap.size w w') (hR:R<=w.heap.size):StT w w' R:=⟨fun k h1 _ _=>hb.block k h1,hb.mono hR⟩
theorem Qu.below {D:Nat} (h:Qu w R a c l) (hb:Below D w w') (hD:D=w.heap.size):Qu w' R a c l:=by
 subst hD
 exact⟨(hb.block R h.lt).trans h.blk,h.own.below hb (Nat.le_refl _)⟩
theorem zJt {t:TypeId} {cs:Array Value} {f:Nat×Nat} (h:Kit.Own' TL w B e a n c l) (hR:w.heap[R]? =some (.cells cs t f)) (ht:t≠e):
  (Value.slice a n c).ownBlock≠some R:=by
 intro hk
 obtain⟨_,h2⟩:=h
 rcases h2 with⟨h2,_⟩|⟨g,cap,cur,hv,hbg,hg,_⟩
 ·injection h2 with h2 _ _
  subst h2
  simp[Value.ownBlock]at hk
 ·injection hv with ha _ hc
  subst ha
  simp[Value.ownBlock]at hk
  subst hk
  rw[hR]at hg
  injection hg with hg
  injection hg with _ hg _
  exact ht hg
theorem zE3 (h:Kit.Own' TL w B e (some ⟨g,0,none⟩) n c l):B<=g/\n<=c/\∃cs f,w.heap[g]? =some (.cells cs e f):=by
 rcases h.2 with⟨h1,_⟩|⟨g',cap,cur,hv,hb,hg,hn,_⟩
 ·cases h1
 ·injection hv with hv _ hc
  injection hv with hv
  injection hv with hv
  subst hv hc
  exact⟨hb,hn,_,_,hg⟩
theorem Qu.set (h:Qu w R (some ⟨g,0,none⟩) c l) (i:Nat) (hi:i<l.length) (x:Nat×Nat):
  (storeVar TT ⟨g,i*2,none⟩ (tv x)).run Tryz.prog w= .ok () (w.setCells g (i*2) (TL.cl x))/\Qu (w.setCells g (i*2) (TL.cl x)) R (some ⟨g,0,none⟩) c (l.set i x)/\StT w (w.setCells g (i*2) (TL.cl x)) R:=by
 have h1:=h.own.set qHi i hi x
 have hg:=zE3 h.own
 have hgR:R≠g:=by omega
 refine⟨h1.1,⟨?_,?_⟩,⟨fun k h2 h3 h4=>Kit.zAo _ _ _ _ _ (fun e=> ?_),Kit.below_setCells _ _ _ (Below.refl _ _) (by omega)⟩⟩
 ·rw[List.length_set];exact(Kit.zAo _ _ _ _ _ hgR).trans h.blk
 ·rw[List.length_set];exact h1.2
 ·subst e
  obtain⟨_,_,cs,f,hc⟩:=hg
  exact h4 cs f hc
theorem Qu.ld (h:Qu w R (some ⟨g,0,none⟩) c l) (i:Nat) (hi:i<l.length):(loadVar TT ⟨g,i*2,none⟩).run Tryz.prog w= .ok (tv (at_ l i)) w:=by
 have h1:=h.own.rd.ld (P:=Tryz.prog) (e:=TT) i hi szT qBq
 rw[Nat.zero_add]at h1
 unfold at_
 rw[List.getD_eq_getElem?_getD,List.getElem?_eq_getElem hi]
 exact h1
theorem Qu.drew (h:Qu w R a c l):Qu w.drew R a c l:=⟨h.blk,h.own⟩
theorem Qu.here (h:Qu w R a c l) (h0:0<l.length):∃g,a=some ⟨g,0,none⟩:=by
 obtain⟨g,ha,_⟩:=h.own.at_ h0
 exact⟨g,ha⟩
theorem Qu.push (h:Qu w R a c l) (x:Nat×Nat) (hl:l.length<=100000):
  ∃a' c' w',(Builtin.append_ #[297,297] 297 #[.slice a l.length c,.slice (some ⟨w.heap.size,0,none⟩) 1 1]).run Tryz.prog (w.alloc (.cells (TL.cl x).toArray TT))= .ok (.slice a' (l.length+1) c') w'/\
   w'.heap[R]? =some (.cells #[.slice a l.length c,QF] TQ (0,0))/\Qu (w'.setCell ⟨R,0,none⟩ (.slice a' (l.length+1) c')) R a' c' (l++[x])/\StT w (w'.setCell ⟨R,0,none⟩ (.slice a' (l.length+1) c')) R:=by
 have hr:Kit.Rd TL (w.alloc (.cells (TL.cl x).toArray TT)) (some ⟨w.heap.size,0,none⟩) [x]:=Kit.zFo w x TT
 have ho:Kit.Own' TL (w.alloc (.cells (TL.cl x).toArray TT)) (R+1) TT a l.length c l:=h.own.alloc _
 have hR:=h.lt
 obtain⟨a',c',w',h1,h2,h3⟩:=ho.app (ty:=297) qHe (some ⟨w.heap.size,0,none⟩) 1 1 [x] hr rfl (fun h=>by cases h) (by unfold maxLen;omega) (by omega) (by rw[zA];omega)
 have hb:Below w.heap.size w (w.alloc (.cells (TL.cl x).toArray TT)):=(Below.refl _ _).alloc (Nat.le_refl _) _
 have hblk1:(w.alloc (.cells (TL.cl x).toArray TT)).heap[R]? =some (.cells #[.slice a l.length c,QF] TQ (0,0)):=(hb.block R hR).trans h.blk
 have hne:=zJt ho hblk1 (by decide)
 have hblk:w'.heap[R]? =some (.cells #[.slice a l.length c,QF] TQ (0,0)):=(h3.block R (zAd hblk1) (fun e=>hne e.symm)).trans hblk1
 refine⟨a',c',w',h1,hblk,⟨?_,?_⟩,⟨fun k h4 h5 h6=> ?_,?_⟩⟩
 ·rw[setBlock 0 hblk,List.length_append];rfl
 ·rw[List.length_append]
  exact World.ownsRow.kept h2 (zB1 w' R 0 _) (.inr (zJt h2 hblk (by decide)))
 ·rw[zAa h5]
  refine(h3.block k (by rw[zA];omega) (fun e=> ?_)).trans (hb.block k h4)
  obtain⟨_,h7⟩:=h.own
  rcases h7 with⟨h7,_⟩|⟨g,cap,cur,hv,_,hg,_⟩
  ·injection h7 with h7 _ _
   subst h7
   simp[Value.ownBlock]at e
  ·injection hv with ha _ _
   subst ha
   simp[Value.ownBlock]at e
   subst e
   exact h6 _ _ hg
 ·refine((hb.mono (Nat.le_of_lt hR)).trans (Kit.zAq h3 (by rw[zA];omega) (fun k hk=> ?_))).setCell (p:=⟨R,0,none⟩) (Nat.le_refl _) _
  have:=ho.block k hk
  omega
theorem zQq (R:Nat) (a:Option Addr) (c:Nat) (l:List (Nat×Nat)) (x:Nat×Nat) (w:World) (hq:Qu w R a c l) (hl:l.length<=1000) (hp:Hp lq l.length (at_ l)):
  Calls Tryz.prog 177 #[.pointer (some ⟨R,0,none⟩),tv x] w fun e w'=>e= .returned (.tuple #[])/\∃a' c' l',Qu w' R a' c' l'/\l'.Perm (x::l)/\Hp lq l'.length (at_ l')/\StT w w' R:=by
 obtain⟨B,hB⟩:=zB w.heap.size
 have hRB:=hq.lt
 rw[hB]at hRB
 obtain⟨W,hW⟩:=zB (w.alloc (.cells #[.int .i64 (x.1:Int),.int .i64 (x.2:Int)] TT))
 have zW:W.heap.size=B+1:=by rw[<-hW,zA,hB]
 have hbW:Below B w W:=by rw[<-hW,<-hB];exact(Below.refl _ _).alloc (Nat.le_refl _) _
 have hqW:=hq.below hbW hB.symm
 have hx:W.heap[B]? =some (.cells #[.int .i64 (x.1:Int),.int .i64 (x.2:Int)] TT (0,0)):=by
  rw[<-hW,<-hB]
  show(w.heap.push _)[w.heap.size]? =_
  simp
 have hld:(loadVar TT ⟨B,0,none⟩).run Tryz.prog W.drew= .ok (tv x) W.drew:=by
  obtain⟨x0,x1,_,_⟩:=zAf (w:=W.drew) hx
  exact Kit.zHe (L:=TL) (b:=B) (off:=0) (x:=x) (fun i hi=>by
   have:i=0\/i=1:=by have h2:i<2:=hi;omega
   rcases this with rfl|rfl
   ·exact x0
   ·exact x1) szT qBq
 obtain⟨n,hn⟩:=zB l.length
 obtain⟨a1,c1,w1,hr1,hk1,hq1,hs1⟩:=hqW.drew.push x (by omega)
 rw[hn]at hr1 hk1 hq1 hs1 hl hp
 have zWd:W.drew.heap.size=B+1:=zW
 obtain⟨y0,_,_,_⟩:=zAf (w:=W.drew) hqW.blk
 rw[hn]at y0
 obtain⟨y2,_,y3,_⟩:=zAf hk1
 have hl0:(loadVar 297 ⟨R,0,none⟩).run Tryz.prog W.drew= .ok (.slice a n c) W.drew:=Kit.zAg y0 (by kernel_rfl) (by kernel_rfl)
 have hst:(storeVar 297 ⟨R,0,none⟩ (.slice a1 (n+1) c1)).run Tryz.prog w1= .ok () (w1.setCell ⟨R,0,none⟩ (.slice a1 (n+1) c1)):=Kit.zDs y2 y3 (by kernel_rfl) rfl rfl
 obtain⟨w2,hw2⟩:=zB (w1.setCell ⟨R,0,none⟩ (.slice a1 (n+1) c1))
 rw[hw2]at hst hq1 hs1
 have hll:(l++[x]).length=n+1:=by rw[List.length_append,hn];rfl
 have hS1:StT w w2 R:=(StT.of_below (hB▸hbW) (by omega)).trans ((StT.of_below (w':=W.drew) (Below.refl _ _).drew (by omega)).trans hs1)
 have hU:Up lq (n+1) n (at_ (l++[x])):=Up.start hp (fun k hk=>by
  unfold at_
  rw[List.getD_eq_getElem?_getD,List.getD_eq_getElem?_getD,List.getElem?_append_left (by omega)])
 have HU:=zH hU
 have HP:=zH (show(l++[x]).Perm (x::l)from List.perm_append_singleton x l)
 have HQ1:=zH hq1
 have HLL:=zH hll
 have HS1:=zH hS1
 have HLD:=zH hld
 have HL0:=zH hl0
 have HL2:=zH (show(loadVar 297 ⟨R,0,none⟩).run Tryz.prog (W.drew.alloc (.cells (TL.cl x).toArray TT))= .ok (.slice a n c) (W.drew.alloc (.cells (TL.cl x).toArray TT))from Kit.zAg ((World.cell?_alloc_lt _ _ _ (by show R<_;omega)).trans y0) (by kernel_rfl) (by kernel_rfl))
 have HST:=zH hst
 have HR1:=zH hr1
 have HZ:=zH zWd
 obtain⟨z0,_,_,_⟩:=zAf hq1.blk
 rw[hll]at z0
 clear hq hqW hbW hx hld hn hr1 hk1 hq1 hs1 y0 y2 y3 hl0 hst hw2 hll hS1 hU zW zWd hp
 unfold tv at HLD⊢
 go_enter Tryz.func177,Tryz.ntmps177
 go_wp2
 clear hW hB
 refine zS [7,10] (fun W'=>(loadVar 297 ⟨R,0,none⟩).run Tryz.prog W'= .ok (.slice a n c) W') [0,0,2,4,8,0,32,80,255,511,767] 11<|zu 0 6 (zP R 0)<|zu 1 7 (zP R 0)<|zu 2 8 (zP R 0)<|zu 3 9 (zP R 0)<|zy 4 10 (.slice a n c) (fun w hS=>zl 297 9 (hS)) HL0.out<|zp [5]<|zt 11 (.agg #[.int .i64 (x.1:Int),.int .i64 (x.2:Int)]) (zl 295 3 (HLD.out))<|zn<|zo 6 12 (.slice (some ⟨W.drew.heap.size,0,none⟩) 1 1) (by kernel_rfl) (.inr (.inr (HL2.out)))<|zo 7 13 (.slice a1 (n+1) c1) (Kit.zHb (.tmp 10) (.tmp 12) 297 rfl (by kernel_rfl) (by kernel_rfl) HR1.out) (.inr (.inl (by kernel_rfl)))<|zp [8,9]<|zk 14 (zP R 0)<|zk 15 (zP R 0)<|zn<|zw 10 none (zr 297 15 13 (HST.out)) (.inr (.inl (by kernel_rfl)))<|zE<| ?_
 simp only[zP,zI,Act.put,List.setIfInBounds_toArray,List.set_cons_zero,List.set_cons_succ]
 clear HR1 HLD HL0 HL2 HST HZ
 go_wp2
 go_loopw [4] (fun i wr=>∃(k c2:Nat) (a2:Option Addr) (m:List (Nat×Nat)),k<=n/\i= .int .i64 k/\RowKit.Hid (Qu wr R a2 c2 m)/\RowKit.Hid (m.length=n+1)/\RowKit.Hid (m.Perm (x::l))/\RowKit.Hid (Up lq (n+1) k (at_ m))/\RowKit.Hid (StT w wr R)) (fun i _=>(intOf i).toNat)
 case atStart=>exact⟨n,c1,a1,l++[x],Nat.le_refl _,by go_num,HQ1,HLL,HP,HU,HS1⟩
 case round=>
  clear HQ1 HLL HP HU HS1 z0
  obtain⟨k,c2,a2,m,hk,rfl,hq,hm,hp,hu,hs⟩:=hrel
  obtain⟨g,rfl⟩:=hq.out.here (by rw[hm.out];omega)
  by_cases h0:0<k
  ·obtain⟨u,hu2⟩:=zB ((k-1)/2)
   have huk:u<k:=by omega
   have hq1:((k:Int)-1)/2=(u:Int):=by omega
   have hgR:=(zE3 hq.out.own).1
   obtain⟨x0,x1,_,_⟩:=zAf (w:=wr.drew) hq.out.blk
   rw[hm.out]at x0
   have hl0:(loadVar 297 ⟨R,0,none⟩).run Tryz.prog wr.drew= .ok (.slice (some ⟨g,0,none⟩) (n+1) c2) wr.drew:=Kit.zAg x0 (by kernel_rfl) (by kernel_rfl)
   have hl1:(loadVar 296 ⟨R,1,none⟩).run Tryz.prog wr.drew= .ok QF wr.drew:=Kit.zAg x1 (by kernel_rfl) (by kernel_rfl)
   have hk1:k<m.length:=by rw[hm.out];omega
   have hu1:u<m.length:=by rw[hm.out];omega
   have L0:=zH hl0
   have L1:=zH hl1
   have LK:=zH (hq.out.drew.ld k hk1)
   have LU:=zH (hq.out.drew.ld u hu1)
   have HC:=zH (zPg (at_ m k) (at_ m u) wr.drew)
   have HU2:=zH hu2
   obtain⟨pk,hpk⟩:=zB (at_ m k)
   obtain⟨pu,hpu⟩:=zB (at_ m u)
   rw[hpk]at LK HC
   rw[hpu]at LU HC
   have PK:=zH hpk
   have PU:=zH hpu
   clear x0 x1 hl0 hl1 hk1 hu1 hpk hpu hu2
   cases hr:lq pk pu with
   |false=>
    rw[hr]at HC
    have HR:=zH hr
    clear hr
    go_wp2
    rw[hq1]
    refine zS [] (fun _=>True) [0,1,2,4,0,16,32,64,0,384,512,0,2048,4096,8192,0,49152,65536,132104,262144] 20<|zp [0,1,2,3,4,5,6,7,8,9,10,11,12,13,14,15,16,17]<|zk 27 (zP R 0)<|zk 28 (zP R 0)<|zk 29 (zP R 1)<|zt 30 QF (zl 296 29 (L1.out))<|zk 31 (zP R 0)<|zk 32 (zP R 0)<|zk 33 (zP R 0)<|zt 34 (.slice (some ⟨g,0,none⟩) (n+1) c2) (zl 297 33 (L0.out))<|zk 35 (zI k)<|zt 36 (.pointer (some ⟨g,k*2,none⟩)) (Kit.zAw (t:=297) (x:=(.tmp 34)) (y:=(.tmp 35)) (g:=g) (n:=(n+1)) (c:=c2) (k:=k) (sz:=2) rfl (by kernel_rfl) (by kernel_rfl) (by omega) Tryz.underlying297 (fun _=>Tryz.sizeOf295 _) _)<|zt 37 (tv pk) (zl 295 36 (LK.out))<|zk 38 (zP R 0)<|zk 39 (zP R 0)<|zk 40 (zP R 0)<|zt 41 (.slice (some ⟨g,0,none⟩) (n+1) c2) (zl 297 40 (L0.out))<|zk 42 (zI u)<|zt 43 (.pointer (some ⟨g,u*2,none⟩)) (Kit.zAw (t:=297) (x:=(.tmp 41)) (y:=(.tmp 42)) (g:=g) (n:=(n+1)) (c:=c2) (k:=u) (sz:=2) rfl (by kernel_rfl) (by kernel_rfl) (by omega) Tryz.underlying297 (fun _=>Tryz.sizeOf295 _) _)<|zt 44 (tv pu) (zl 295 43 (LU.out))<|zn<|zc 18 45 176 #[tv pk,tv pu] (.bool false) HC.out<| ?_
    refine fun w5 hb5=>⟨.inr (.inr trivial),?_⟩
    refine zp [19]<|zk 46 (.bool true)<|zn<|zE<| ?_
    simp only[zP,zI,Act.put,List.setIfInBounds_toArray,List.set_cons_zero,List.set_cons_succ]
    have H5:=zH (show Below wr.heap.size wr w5 from(Below.refl _ _).drew.trans hb5)
    clear hb5 HC LK LU L0 L1
    go_wp2
    try simp only[Exit.inBlock,Exit.then]
    refine bodyPost_ret (v:= .tuple #[]) (by kernel_rfl) rfl ⟨rfl,_,_,m,hq.out.below H5.out rfl,hp.out,?_,hs.out.trans (StT.of_below H5.out (Nat.le_of_lt hq.out.lt))⟩
    rw[hm.out]
    exact hu.out.stop (.inr (by rw[HU2.out,PK.out,PU.out];exact HR.out))
   |true=>
    rw[hr]at HC
    have HR:=zH hr
    clear hr
    go_wp2
    rw[hq1]
    refine zS [] (fun _=>True) [0,1,2,4,0,16,32,64,0,384,512,0,2048,4096,8192,0,49152,65536,132104,262144] 20<|zp [0,1,2,3,4,5,6,7,8,9,10,11,12,13,14,15,16,17]<|zk 27 (zP R 0)<|zk 28 (zP R 0)<|zk 29 (zP R 1)<|zt 30 QF (zl 296 29 (L1.out))<|zk 31 (zP R 0)<|zk 32 (zP R 0)<|zk 33 (zP R 0)<|zt 34 (.slice (some ⟨g,0,none⟩) (n+1) c2) (zl 297 33 (L0.out))<|zk 35 (zI k)<|zt 36 (.pointer (some ⟨g,k*2,none⟩)) (Kit.zAw (t:=297) (x:=(.tmp 34)) (y:=(.tmp 35)) (g:=g) (n:=(n+1)) (c:=c2) (k:=k) (sz:=2) rfl (by kernel_rfl) (by kernel_rfl) (by omega) Tryz.underlying297 (fun _=>Tryz.sizeOf295 _) _)<|zt 37 (tv pk) (zl 295 36 (LK.out))<|zk 38 (zP R 0)<|zk 39 (zP R 0)<|zk 40 (zP R 0)<|zt 41 (.slice (some ⟨g,0,none⟩) (n+1) c2) (zl 297 40 (L0.out))<|zk 42 (zI u)<|zt 43 (.pointer (some ⟨g,u*2,none⟩)) (Kit.zAw (t:=297) (x:=(.tmp 41)) (y:=(.tmp 42)) (g:=g) (n:=(n+1)) (c:=c2) (k:=u) (sz:=2) rfl (by kernel_rfl) (by kernel_rfl) (by omega) Tryz.underlying297 (fun _=>Tryz.sizeOf295 _) _)<|zt 44 (tv pu) (zl 295 43 (LU.out))<|zn<|zc 18 45 176 #[tv pk,tv pu] (.bool true) HC.out<| ?_
    refine fun w5 hb5=>⟨.inr (.inr trivial),?_⟩
    refine zp [19]<|zk 46 (.bool false)<|zn<|zE<| ?_
    simp only[zP,zI,Act.put,List.setIfInBounds_toArray,List.set_cons_zero,List.set_cons_succ]
    have H5:=zH (show Below wr.heap.size wr w5 from(Below.refl _ _).drew.trans hb5)
    have hq5:=hq.out.below H5.out rfl
    have hs5:=hs.out.trans (StT.of_below H5.out (Nat.le_of_lt hq.out.lt))
    clear hb5 HC LK LU L0 L1 H5
    obtain⟨x0,x1,_,_⟩:=zAf (w:=w5.drew) hq5.blk
    rw[hm.out]at x0
    have hl0:(loadVar 297 ⟨R,0,none⟩).run Tryz.prog w5.drew= .ok (.slice (some ⟨g,0,none⟩) (n+1) c2) w5.drew:=Kit.zAg x0 (by kernel_rfl) (by kernel_rfl)
    have hk1:k<m.length:=by rw[hm.out];omega
    have hu1:u<m.length:=by rw[hm.out];omega
    have lk:=hq5.drew.ld k hk1
    have lu:=hq5.drew.ld u hu1
    rw[PK.out]at lk
    rw[PU.out]at lu
    obtain⟨s1,q6,t6⟩:=hq5.drew.set k hk1 pu
    obtain⟨w6,hw6⟩:=zB (w5.drew.setCells g (k*2) (TL.cl pu))
    rw[hw6]at s1 q6 t6
    obtain⟨s2,q7,t7⟩:=q6.set u (by rw[List.length_set];exact hu1) pk
    obtain⟨w7,hw7⟩:=zB (w6.setCells g (u*2) (TL.cl pk))
    rw[hw7]at s2 q7 t7
    have L0:=zH hl0
    have LK:=zH lk
    have LU:=zH lu
    have S1:=zH s1
    have S2:=zH s2
    have Q7:=zH q7
    have T7:=zH ((hs5.trans (StT.of_below (w':=w5.drew) (Below.refl _ _).drew (Nat.le_of_lt hq5.lt))).trans (t6.trans t7))
    have e:(m.set k pu).set u pk=sw m k u:=by unfold sw;rw[show m.getD u (0,0)=pu from PU.out,show m.getD k (0,0)=pk from PK.out]
    rw[e]at Q7
    have hU:Up lq (n+1) u (at_ (sw m k u)):=by
     have h1:=Up.step (g:=at_ (sw m k u)) zF3 hu.out h0 (by omega) (by rw[HU2.out,PK.out,PU.out];exact HR.out) (by rw[HU2.out];exact qEy m k u hk1 (by omega)) (by rw[HU2.out];exact qEw m k u hu1) (fun j h1 h2=>by rw[HU2.out]at h2;exact qEx m k u j h1 h2)
     rwa[HU2.out]at h1
    have HU:=zH hU
    have HP:=zH ((zTd m k u hk1 hu1).trans hp.out)
    have HL:=zH (show(sw m k u).length=n+1 by rw[zWo];exact hm.out)
    clear hq5 hs5 x0 x1 hl0 hk1 hu1 lk lu s1 q6 t6 hw6 s2 q7 t7 hw7 e hU hq1
    go_wp2
    refine zS [] (fun _=>True) [0,1,2,4,0,0,32,64,128,0,0,1024,2048,4096,0,24576,32768,0,131072,262144,524288,0,3145728,4194304,9567519,26344735,67108863,134217727] 28<|zu 9 56 (zI u)<|zp [0,1,2,3,4,5,6,7,8,10,11,12,13,14,15,16,17,18,19,20,21,22,23,24]<|zk 47 (zP R 0)<|zk 48 (zP R 0)<|zk 49 (zP R 0)<|zt 50 (.slice (some ⟨g,0,none⟩) (n+1) c2) (zl 297 49 (L0.out))<|zk 51 (zI k)<|zk 52 (zP R 0)<|zk 53 (zP R 0)<|zk 54 (zP R 0)<|zt 55 (.slice (some ⟨g,0,none⟩) (n+1) c2) (zl 297 54 (L0.out))<|zk 57 (zP R 0)<|zk 58 (zP R 0)<|zk 59 (zP R 0)<|zt 60 (.slice (some ⟨g,0,none⟩) (n+1) c2) (zl 297 59 (L0.out))<|zk 61 (zI u)<|zt 62 (.pointer (some ⟨g,u*2,none⟩)) (Kit.zAw (t:=297) (x:=(.tmp 60)) (y:=(.tmp 61)) (g:=g) (n:=(n+1)) (c:=c2) (k:=u) (sz:=2) rfl (by kernel_rfl) (by kernel_rfl) (by omega) Tryz.underlying297 (fun _=>Tryz.sizeOf295 _) _)<|zt 63 (tv pu) (zl 295 62 (LU.out))<|zk 64 (zP R 0)<|zk 65 (zP R 0)<|zk 66 (zP R 0)<|zt 67 (.slice (some ⟨g,0,none⟩) (n+1) c2) (zl 297 66 (L0.out))<|zk 68 (zI k)<|zt 69 (.pointer (some ⟨g,k*2,none⟩)) (Kit.zAw (t:=297) (x:=(.tmp 67)) (y:=(.tmp 68)) (g:=g) (n:=(n+1)) (c:=c2) (k:=k) (sz:=2) rfl (by kernel_rfl) (by kernel_rfl) (by omega) Tryz.underlying297 (fun _=>Tryz.sizeOf295 _) _)<|zt 70 (tv pk) (zl 295 69 (LK.out))<|zt 71 (.pointer (some ⟨g,k*2,none⟩)) (Kit.zAw (t:=297) (x:=(.tmp 50)) (y:=(.tmp 51)) (g:=g) (n:=(n+1)) (c:=c2) (k:=k) (sz:=2) rfl (by kernel_rfl) (by kernel_rfl) (by omega) Tryz.underlying297 (fun _=>Tryz.sizeOf295 _) _)<|zn<|zw 25 none (zr 295 71 63 (S1.out)) (.inr (.inr trivial))<|zp [26]<|zt 72 (.pointer (some ⟨g,u*2,none⟩)) (Kit.zAw (t:=297) (x:=(.tmp 55)) (y:=(.tmp 56)) (g:=g) (n:=(n+1)) (c:=c2) (k:=u) (sz:=2) rfl (by kernel_rfl) (by kernel_rfl) (by omega) Tryz.underlying297 (fun _=>Tryz.sizeOf295 _) _)<|zn<|zw 27 none (zr 295 72 70 (S2.out)) (.inr (.inr trivial))<|zE<| ?_
    simp only[zP,zI,Act.put,List.setIfInBounds_toArray,List.set_cons_zero,List.set_cons_succ]
    clear S1 S2 LK LU L0
    go_wp2
    go_roundw
    case rel=>exact⟨u,c2,some ⟨g,0,none⟩,sw m k u,by omega,rfl,Q7,HL,HP,HU,T7⟩
    case measure=>simp[intOf];omega
  ·obtain rfl:k=0:=by omega
   go_wp2
   go_end0
   refine⟨rfl,_,_,m,hq.out,hp.out,?_,hs.out⟩
   rw[hm.out]
   exact hu.out.stop (.inl rfl)
end Wg
end Go.Proofs.YtppnakkaljbmbaaGreatDoor
