/- Steps of a proof; no condition beyond what each states. -/
import Derived.Test.YtppnakkaljbmbaaGreatDoorZU13
set_option linter.unusedVariables false
set_option linter.unusedSimpArgs false
set_option maxRecDepth 100000
set_option maxHeartbeats 8000000
namespace Go.Proofs.YtppnakkaljbmbaaGreatDoor
namespace Us
open Go.RowKit Front Bt Zr Tn
def alpha (l:List Nat) (k:Nat):List UInt8:=((List.range k).filter fun c=>decide (c∈l)).map UInt8.ofNat
theorem zEd (l:List Nat) (k:Nat):alpha l (k+1)=alpha l k++if k∈l then[UInt8.ofNat k]else[]:=by
 unfold alpha
 rw[List.range_succ,List.filter_append,List.map_append]
 congr 1
 by_cases h:k∈l<;>simp[h]
theorem zPe (l:List Nat) (k:Nat):(alpha l k).length<=k:=by
 unfold alpha
 rw[List.length_map]
 have:=List.length_filter_le (fun c=>decide (c∈l)) (List.range k)
 rwa[List.length_range]at this
def zAj (s:ByteArray):ByteArray:=⟨(alpha (bl s) 256).toArray⟩
theorem zEc (s:ByteArray) (hs:s.size<=1000000) (w:World):
  Calls Tryz.prog 20 #[.string s] w fun e w'=>e= .returned (.string (zAj s))/\Below w.heap.size w w':=by
 obtain⟨B,hB⟩:=zB w.heap.size
 have HO:=zH (zXe s hs w)
 rw[hB]at HO
 obtain⟨l,hl⟩:=zB (bl s)
 unfold zAj
 rw[hl]at HO⊢
 rw[hB]
 clear hl
 go_enter Tryz.func20,Tryz.ntmps20
 go_wp2_with fail
 (with_reducible refine HO.out.mono ?_)
 rintro e w2 ⟨rfl,hb2⟩
 have HB2:=zH hb2
 obtain⟨cs,hcs⟩:=zB (cellsOf 256 (has l))
 have HC:=zH (show ∀k,k<256->cs[k]? =some (.bool (decide (k∈l)))from fun k hk=>by rw[<-hcs,zCe 256 (has l) k hk];rfl)
 have hsz:cs.size=256:=by rw[<-hcs,cellsOf_size]
 rw[hcs]
 clear HO hb2 hcs
 go_wp2
 go_loopw [8,3] (fun i v wr=>∃(k n:Nat) (p:Option Addr) (c:Nat),k<=256/\i= .int .i64 k/\v= .slice p n c/\n<=k/\RowKit.Hid (Kit.Own wr B TB p n c ((alpha l k).map Kit.zAe))/\RowKit.Hid (Below B w wr)) (fun i _ _=>256-(intOf i).toNat)
 case atStart=>exact⟨0,0,none,0,by omega,rfl,rfl,by omega,zH (Kit.Own.start _ _ _),HB2⟩
 case round=>
  obtain⟨k,n,p,c,hk,rfl,rfl,hn,hown,hb⟩:=hrel
  by_cases hlt:k<256
  ·have hck:=HC.out k hlt
   have hk2:k<cs.size:=by omega
   rw[Array.getElem?_eq_getElem hk2]at hck
   have hck:=Option.some.inj hck
   have hix:=zE8 (P:=Tryz.prog) (t:=TS) (n:=256) (e:=4) Tryz.underlying147 (fun _=>Tryz.isAgg4 _) (fun _=>Tryz.sizeOf4 _) cs k _ hlt (HC.out k hlt) wr
   have hln:=hown.out.len
   rw[List.length_map]at hln
   have hal:=zPe l k
   by_cases hm:k∈l
   ·rw[decide_eq_true hm]at hix
    clear hck
    have hnx:alpha l (k+1)=alpha l k++[UInt8.ofNat k]:=by rw[zEd,if_pos hm]
    have hbv:Kit.zAe (UInt8.ofNat k)= .int .u8 (k:Int):=by unfold Kit.zAe;rw[ofNat_toNat hlt]
    have hz:=hb.out.size
    obtain⟨p3,c3,w3,hr3,ho3,hg3⟩:=Kit.Own.app (ty:=109) (w:=wr.alloc (.cells #[.int .u8 (k:Int)] TB)) zNh (hown.out.alloc _) (some ⟨wr.heap.size,0,none⟩) 1 1 [Kit.zAe (UInt8.ofNat k)] (by rw[hbv];exact Kit.zAs wr _ TB) rfl (fun h=>by cases h) (Kit.zG [UInt8.ofNat k]) (by unfold maxLen;omega) (by omega) (by simp;omega)
    have hb3:Below B w w3:=hb.out.trans (((Below.refl _ _).alloc (by omega) _).trans ((Below.refl _ _).grown hg3 (by simp;omega) (fun q hq=>hown.out.block q hq)))
    rw[show(alpha l k).map Kit.zAe++[Kit.zAe (UInt8.ofNat k)]=(alpha l (k+1)).map Kit.zAe by rw[hnx,List.map_append];rfl]at ho3
    have HO3:=zH ho3
    have HB3:=zH hb3
    clear ho3 hb3 hg3 hnx hbv hm hln hal
    go_wp2_with (at_builtin;refine Kit.zAr rfl (.tmp 13) (.tmp 16) 109 rfl rfl rfl hr3 ?_)
    go_roundw
    case rel=>exact⟨k+1,n+1,p3,c3,by omega,by go_num,rfl,by omega,HO3,HB3⟩
    case measure=>simp only[intOf];omega
   ·rw[decide_eq_false hm]at hix
    have hnx:alpha l (k+1)=alpha l k:=by rw[zEd,if_neg hm,List.append_nil]
    have HNX:=zH hnx
    clear hck hm hnx
    go_wp2
    go_roundw
    case rel=>exact⟨k+1,n,p,c,by omega,by go_num,rfl,by omega,by rw[HNX.out];exact hown,hb⟩
    case measure=>simp only[intOf];omega
  ·obtain rfl:k=256:=by omega
   have hln:=hown.out.len
   rw[List.length_map]at hln
   have hcv:=Kit.Src.text (P:=Tryz.prog) (n:=n) (c:=c) (src:=109) (dst:=9) hown.out.src hln Tryz.underlying109 Tryz.underlying5 Tryz.underlying9
   clear hln hsz
   go_wp2
   go_ret
   exact⟨rfl,hb.out⟩
end Us
namespace Ch
open Wg Hf
variable {m:List Nat}
def grp (m:List Nat):List (List Nat):=if h:m=[]then[]else m.take 10::grp (m.drop 10)
termination_by m.length
decreasing_by
 have:0<m.length:=List.length_pos_iff.2 h
 rw[List.length_drop];omega
theorem qDw:grp []=[]:=by unfold grp;rfl
theorem zLg (h:m≠[]):grp m=m.take 10::grp (m.drop 10):=by rw[grp,dif_neg h]
theorem zBx (m:List Nat):(grp m).length=(m.length+9)/10:=by
 induction hn:m.length using Nat.strongRecOn generalizing m with
 |_ n ih=>
  by_cases h:m=[]
  ·subst h;rw[qDw];simp at hn;subst hn;rfl
  ·have h0:0<m.length:=List.length_pos_iff.2 h
   rw[zLg h,List.length_cons,ih (m.drop 10).length (by rw[List.length_drop];omega) _ rfl,List.length_drop]
   omega
theorem zJy (m:List Nat) (i:Nat) (h:10*i<m.length):(grp m)[i]? =some ((m.drop (10*i)).take 10):=by
 induction i generalizing m with
 |zero=>
  have hm:m≠[]:=by rintro rfl;simp at h
  rw[zLg hm];rfl
 |succ i ih=>
  have hm:m≠[]:=by rintro rfl;simp at h
  rw[zLg hm,List.getElem?_cons_succ,ih (m.drop 10) (by rw[List.length_drop];omega),List.drop_drop]
  rw[show 10+10*i=10*(i+1)by omega]
theorem zHg {g:List Nat} (hg:g∈grp m):g≠[]/\g.length<=10/\∀x∈g,x∈m:=by
 obtain⟨i,hi,rfl⟩:=List.getElem_of_mem hg
 rw[zBx]at hi
 have h1:10*i<m.length:=by omega
 have h2:=zJy m i h1
 rw[List.getElem?_eq_getElem (by rw[zBx];exact hi)]at h2
 rw[Option.some.inj h2]
 refine⟨?_,by rw[List.length_take];omega,fun x hx=>List.mem_of_mem_drop (List.mem_of_mem_take hx)⟩
 intro e
 have:=congrArg List.length e
 rw[List.length_take,List.length_drop]at this
 simp at this
 omega
def wt (m:List Nat) (p k s:Nat):Nat:=(List.range p).countP fun q=>decide (q/10%2=k)&&(m.getD q 0==s)
theorem qCk (m:List Nat) (k s:Nat):wt m 0 k s=0:=rfl
theorem zG4 (m:List Nat) (p k s:Nat):wt m (p+1) k s=wt m p k s+if p/10%2=k/\m.getD p 0=s then 1 else 0:=by
 unfold wt
 rw[List.range_succ,List.countP_append,List.countP_singleton]
 simp
theorem qEz (n s:Nat) (c:Prop) [Decidable c]:((List.range n).map fun x=>if c/\s=x then 1 else 0).sum<=1:=by
 induction n with
 |zero=>simp
 |succ n ih=>
  rw[List.range_succ,List.map_append,List.sum_append]
  simp only[List.map_cons,List.map_nil,List.sum_cons,List.sum_nil]
  by_cases h:c/\s=n
  ·have h0:((List.range n).map fun x=>if c/\s=x then 1 else 0).sum=0:=by
    have:((List.range n).map fun x=>if c/\s=x then 1 else 0)=(List.range n).map fun _=>0:=List.map_congr_left fun x hx=>by
     have:=List.mem_range.1 hx
     rw[if_neg (by omega)]
    rw[this]
    clear this ih h
    induction n with
    |zero=>rfl
    |succ n ih=>rw[List.range_succ,List.map_append,List.sum_append,ih];rfl
   rw[h0,if_pos h];omega
  ·rw[if_neg h];omega
theorem sum_add (f g:Nat->Nat):∀l:List Nat,(l.map fun x=>f x+g x).sum=(l.map f).sum+(l.map g).sum
 |[]=>rfl
 |x::l=>by rw[List.map_cons,List.map_cons,List.map_cons,List.sum_cons,List.sum_cons,List.sum_cons,sum_add f g l];omega
theorem zV3 (m:List Nat) (n k:Nat):∀p,((List.range n).map (wt m p k)).sum<=p
 |0=>by
  have:(List.range n).map (wt m 0 k)=(List.range n).map fun _=>0:=List.map_congr_left fun x _=>qCk m k x
  rw[this]
  clear this
  induction n with
  |zero=>simp
  |succ n ih=>rw[List.range_succ,List.map_append,List.sum_append];simpa using ih
 |p+1=>by
  have ih:=zV3 m n k p
  have h1:=qEz n (m.getD p 0) (p/10%2=k)
  have:(List.range n).map (wt m (p+1) k)=(List.range n).map fun x=>wt m p k x+if p/10%2=k/\m.getD p 0=x then 1 else 0:=List.map_congr_left fun x _=>zG4 m p k x
  rw[this,sum_add]
  omega
theorem qBx (m:List Nat) (p k s:Nat):wt m p k s<=p:=by
 unfold wt
 have:=List.countP_le_length (p:=fun q=>decide (q/10%2=k)&&(m.getD q 0==s)) (l:=List.range p)
 rwa[List.length_range]at this
def ws (m:List Nat) (n k:Nat):List Nat:=(List.range n).map (wt m m.length k)
def one (l:List Nat):List Nat:=l.map (max · 1)
def tb (m:List Nat) (n k:Nat):List Nat:=lens (one (ws m n k))
theorem zLv (m:List Nat) (n k:Nat):(ws m n k).length=n:=by simp[ws]
theorem zHc (l:List Nat):(one l).length=l.length:=by simp[one]
theorem zG5 (m:List Nat) (n k:Nat):(tb m n k).length=n:=by unfold tb;rw[zC0,zHc,zLv]
theorem one_pos (l:List Nat):∀w∈one l,1<=w:=by
 intro w hw
 obtain⟨x,_,rfl⟩:=List.mem_map.1 hw
 omega
theorem zNg:∀l:List Nat,(one l).sum<=l.sum+l.length
 |[]=>Nat.le_refl _
 |x::l=>by
  have:=zNg l
  show max x 1+(one l).sum<=_
  rw[List.sum_cons,List.length_cons];omega
theorem zV4 (m:List Nat) (n k:Nat):(ws m n k).sum<=m.length:=zV3 m n k m.length
theorem zDn (m:List Nat) (n k:Nat) (h2:2<=n) (h258:n<=258) (hm:m.length<=10000):Right (tb m n k):=by
 have h1:=zV4 m n k
 have h3:=zNg (ws m n k)
 have h4:=zLv m n k
 have h5:=zHc (ws m n k)
 exact zU4 _ (by omega) (by omega) (one_pos _) (by omega)
def cost (t g:List Nat):Nat:=(g.map fun s=>t.getD s 0).sum
def zGi (t0 t1 g:List Nat):Nat:=if cost t1 g<cost t0 g then 1 else 0
theorem zZ0 (t0 t1 g:List Nat):zGi t0 t1 g<=1:=by unfold zGi;split<;>omega
def chosen (m:List Nat) (n:Nat):List Nat:=(grp m).map (zGi (tb m n 0) (tb m n 1))
theorem zIe (m:List Nat) (n:Nat):(chosen m n).length=(grp m).length:=by simp[chosen]
theorem zGr (m:List Nat) (n:Nat):∀x∈chosen m n,x<=1:=by
 intro x hx
 obtain⟨g,_,rfl⟩:=List.mem_map.1 hx
 exact zZ0 _ _ _
end Ch
namespace Rle
abbrev T:=List UInt8
def lead (c:UInt8):Nat->T->Nat
 |0,_=>0
 |_+1,[]=>0
 |n+1,x::r=>if x=c then lead c n r+1 else 0
def zAi:T->Nat
 |[]=>0
 |x::r=>lead x 254 r+1
theorem zNk (c:UInt8):∀(n:Nat) (r:T),lead c n r<=n/\lead c n r<=r.length
 |0,r=>by simp[lead]
 |n+1,[]=>by simp[lead]
 |n+1,x::r=>by
  have:=zNk c n r
  rw[lead,List.length_cons]
  split<;>omega
theorem zOt (c:UInt8):∀(n:Nat) (r:T),r.take (lead c n r)=List.replicate (lead c n r) c
 |0,r=>by simp[lead]
 |n+1,[]=>by simp[lead]
 |n+1,x::r=>by
  rw[lead]
  split
  ·rename_i h
   rw[List.take_succ_cons,List.replicate_succ,zOt c n r,h]
  ·rfl
theorem zOu (c:UInt8):∀(n:Nat) (r:T),lead c n r<n->∀h:lead c n r<r.length,¬r[lead c n r]=c
 |0,r,h1,_=>by simp[lead]at h1
 |n+1,[],_,h=>by simp at h
 |n+1,x::r,h1,h=>by
  rw[lead]at h1
  by_cases hx:x=c
  ·rw[if_pos hx]at h1
   have e:lead c (n+1) (x::r)=lead c n r+1:=by rw[lead,if_pos hx]
   have h2:lead c n r<r.length:=by rw[e]at h;simpa using h
   have:=zOu c n r (by omega) h2
   simpa [e]using this
  ·have e:lead c (n+1) (x::r)=0:=by rw[lead,if_neg hx]
   simpa [e]using hx
theorem zGe (x:UInt8) (r:T):zAi (x::r)=lead x 254 r+1:=rfl
theorem zBz (s:T) (h:s≠[]):1<=zAi s:=by
 cases s with
 |nil=>exact absurd rfl h
 |cons x r=>rw[zGe];omega
theorem zFl (s:T):zAi s<=s.length:=by
 cases s with
 |nil=>simp[zAi]
 |cons x r=>have:=zNk x 254 r;rw[zGe,List.length_cons];omega
theorem zEj (s:T):zAi s<=255:=by
 cases s with
 |nil=>simp[zAi]
 |cons x r=>have:=zNk x 254 r;rw[zGe];omega
theorem zIs (x:UInt8) (r:T):(x::r).take (zAi (x::r))=List.replicate (zAi (x::r)) x:=by
 unfold zAi
 rw[List.take_succ_cons,List.replicate_succ,zOt]
theorem zOe (x:UInt8) (r:T) (h1:zAi (x::r)<255) (h:zAi (x::r)<(x::r).length):¬(x::r)[zAi (x::r)]=x:=by
 have e:zAi (x::r)=lead x 254 r+1:=rfl
 have h2:lead x 254 r<r.length:=by rw[e]at h;simpa using h
 have:=zOu x 254 r (by omega) h2
 simpa [e]using this
theorem zTx (c:UInt8):∀(n:Nat) (r:T) (k:Nat),k<=n->(hk:k<=r.length)->r.take k=List.replicate k c->(k=n\/k=r.length\/∃h:k<r.length,¬r[k]=c)->lead c n r=k
 |0,r,k,h1,_,_,_=>by rw[lead];omega
 |n+1,[],k,_,h2,_,_=>by rw[lead];simp at h2;omega
 |n+1,x::r,0,_,_,_,h4=>by
  rcases h4 with h4|h4|⟨h4,h5⟩
  ·omega
  ·simp at h4
  ·rw[lead,if_neg (by simpa using h5)]
 |n+1,x::r,k+1,h1,h2,h3,h4=>by
  rw[List.take_succ_cons,List.replicate_succ,List.cons.injEq]at h3
  rw[lead,if_pos h3.1,zTx c n r k (by omega) (by simpa using h2) h3.2]
  rcases h4 with h4|h4|⟨h4,h5⟩
  ·exact .inl (by omega)
  ·exact .inr (.inl (by simpa using h4))
  ·exact .inr (.inr ⟨by simpa using h4,by simpa using h5⟩)
theorem zJl (x:UInt8) (r:T) (n:Nat) (h0:1<=n) (h1:n<=255) (h2:n<=(x::r).length) (h3:(x::r).take n=List.replicate n x) (h4:n=255\/n=(x::r).length\/∃h:n<(x::r).length,¬(x::r)[n]=x):zAi (x::r)=n:=by
 obtain⟨k,rfl⟩:∃k,n=k+1:=⟨n-1,by omega⟩
 rw[zGe]
 rw[List.take_succ_cons,List.replicate_succ,List.cons.injEq]at h3
 rw[zTx x 254 r k (by omega) (by simpa using h2) h3.2]
 rcases h4 with h4|h4|⟨h4,h5⟩
 ·exact .inl (by omega)
 ·exact .inr (.inl (by simpa using h4))
 ·exact .inr (.inr ⟨by simpa using h4,by simpa using h5⟩)
def pcs (s:T):List T:=if h:s=[]then[]else s.take (zAi s)::pcs (s.drop (zAi s))
termination_by s.length
decreasing_by
 have h1:=zBz s h
 have h2:=List.length_pos_iff.2 h
 rw[List.length_drop];omega
theorem zB6:pcs []=[]:=by rw[pcs];simp
theorem zBq (s:T) (h:s≠[]):pcs s=s.take (zAi s)::pcs (s.drop (zAi s)):=by rw[pcs];rw[dif_neg h]
theorem zEi {M:T->Prop} (h0:M []) (h1:∀s,s≠[]->M (s.drop (zAi s))->M s) (s:T):M s:=by
 have key:∀n,∀s:T,s.length<=n->M s:=by
  intro n
  induction n with
  |zero=>intro s hs;rw[List.eq_nil_of_length_eq_zero (l:=s) (by omega)];exact h0
  |succ n ih=>
   intro s hs
   by_cases h:s=[]
   ·rw[h];exact h0
   ·refine h1 s h (ih _ ?_)
    have:=zBz s h
    have:=List.length_pos_iff.2 h
    rw[List.length_drop];omega
 exact key s.length s (Nat.le_refl _)
theorem zHv (s:T):(pcs s).flatten=s:=by
 refine zEi (M:=fun s=>(pcs s).flatten=s) (by rw[zB6];rfl) (fun s h ih=> ?_) s
 rw[zBq s h,List.flatten_cons,ih,List.take_append_drop]
def pk1 (p:T):T:=if p.length<4 then p else p.take 4++[UInt8.ofNat (p.length-4)]
def pack (s:T):T:=(pcs s).flatMap pk1
def zAv (n:Nat):Nat:=if n<4 then n else 5
def Len (s:T):Nat:=(pack s).length
def lens (l:List T):Nat:=(l.map fun p=>zAv p.length).sum
theorem zMc (p:T):(pk1 p).length=zAv p.length:=by
 unfold pk1 zAv
 split
 ·rfl
 ·rw[List.length_append,List.length_take];simp;omega
theorem zQx:pack []=[]:=by unfold pack;rw[zB6];rfl
theorem zOj (s:T) (h:s≠[]):pack s=pk1 (s.take (zAi s))++pack (s.drop (zAi s)):=by unfold pack;rw[zBq s h,List.flatMap_cons]
theorem zDo (s:T):(s.take (zAi s)).length=zAi s:=by rw[List.length_take];have:=zFl s;omega
theorem zFu:Len []=0:=by unfold Len;rw[zQx];rfl
theorem zIj (s:T) (h:s≠[]):Len s=zAv (zAi s)+Len (s.drop (zAi s)):=by
 unfold Len;rw[zOj s h,List.length_append,zMc,zDo]
theorem zG0 (l m:List T):lens (l++m)=lens l+lens m:=by unfold lens;simp
theorem zQ7 (s:T):lens (pcs s)=Len s:=by
 refine zEi (M:=fun s=>lens (pcs s)=Len s) (by rw[zB6,zFu];rfl) (fun s h ih=> ?_) s
 rw[zBq s h,zIj s h,<-ih]
 unfold lens
 rw[List.map_cons,List.sum_cons,zDo]
theorem zTl (n:Nat):zAv n<=n+1:=by unfold zAv;split<;>omega
theorem zSm (n:Nat) (h:1<=n) (h2:n<=255):4*zAv n<=5*n/\5*n<=255*zAv n:=by unfold zAv;split<;>omega
theorem zBu (s:T):4*Len s<=5*s.length/\5*s.length<=255*Len s:=by
 refine zEi (M:=fun s=>4*Len s<=5*s.length/\5*s.length<=255*Len s) (by rw[zFu];simp) (fun s h ih=> ?_) s
 have h1:=zSm (zAi s) (zBz s h) (zEj s)
 have h2:=zFl s
 rw[List.length_drop]at ih
 rw[zIj s h]
 omega
theorem zQt (l:List T) (s:T) (h:l<+:pcs s):lens l<=Len s/\(l.map List.length).sum<=s.length:=by
 obtain⟨m,hm⟩:=h
 constructor
 ·rw[<-zQ7 s,<-hm,zG0];omega
 ·have:=congrArg List.length (zHv s)
  rw[List.length_flatten,<-hm]at this
  simp at this
  omega
abbrev U:=Nat×UInt8×T
def ust (st:U) (c:UInt8):U:=
 if st.1=4 then(0,st.2.1,st.2.2++List.replicate c.toNat st.2.1)
 else if 0<st.1/\c=st.2.1 then(st.1+1,st.2.1,st.2.2++[st.2.1])
 else(1,c,st.2.2++[c])
def zCm (s:T):U:=s.foldl ust (0,0,[])
theorem zV9 (s:T) (c:UInt8):zCm (s++[c])=ust (zCm s) c:=by unfold zCm;rw[List.foldl_append];rfl
def zEw (s:T) (most:Int):Int:=if(zCm s).1=4 then 3 else if most<((zCm s).2.2.length:Int)then 4 else 0
def zHr (s:T) (most:Int):T:=if zEw s most=0 then(zCm s).2.2 else[]
theorem zUh (r:Nat) (l b:UInt8) (o:T) (h4:r<4) (h:r=0\/¬l=b):ust (r,l,o) b=(1,b,o++[b]):=by
 unfold ust
 rw[if_neg (by simp;omega),if_neg]
 rintro⟨h1,h2⟩
 rcases h with h|h
 ·simp at h1;omega
 ·exact h h2.symm
theorem zN7 (b:UInt8):∀(k r:Nat) (o:T),0<r->r+k<=4->(List.replicate k b).foldl ust (r,b,o)=(r+k,b,o++List.replicate k b)
 |0,r,o,_,_=>by simp
 |k+1,r,o,h1,h2=>by
  rw[List.replicate_succ,List.foldl_cons]
  have e:ust (r,b,o) b=(r+1,b,o++[b]):=by
   unfold ust
   rw[if_neg (by simp;omega),if_pos ⟨h1,rfl⟩]
  rw[e,zN7 b k (r+1) (o++[b]) (by omega) (by omega)]
  simp
  omega
theorem zN5 (b:UInt8) (n r:Nat) (l:UInt8) (o:T) (h1:1<=n) (h2:n<=4) (h4:r<4) (h:r=0\/¬l=b):(List.replicate n b).foldl ust (r,l,o)=(n,b,o++List.replicate n b):=by
 obtain⟨k,rfl⟩:∃k,n=k+1:=⟨n-1,by omega⟩
 rw[List.replicate_succ,List.foldl_cons,zUh r l b o h4 h,zN7 b k 1 _ (by omega) (by omega)]
 simp
 omega
theorem zY1 (s:T):∀(r:Nat) (l:UInt8) (o:T),r<4->(r=0\/∀c,s.head? =some c->¬l=c)->∃r' l',r'<4/\(pack s).foldl ust (r,l,o)=(r',l',o++s):=by
 refine zEi (M:=fun s=>∀(r:Nat) (l:UInt8) (o:T),r<4->(r=0\/∀c,s.head? =some c->¬l=c)->∃r' l',r'<4/\(pack s).foldl ust (r,l,o)=(r',l',o++s)) ?_ (fun s h ih=> ?_) s
 ·intro r l o h4 _
  exact⟨r,l,h4,by rw[zQx];simp⟩
 ·intro r l o h4 hh
  obtain⟨x,t,rfl⟩:∃x t,s=x::t:=by
   cases s with
   |nil=>exact absurd rfl h
   |cons x t=>exact⟨x,t,rfl⟩
  have hh2:r=0\/¬l=x:=by
   rcases hh with hh|hh
   ·exact .inl hh
   ·exact .inr (hh x rfl)
  have h1:=zBz (x::t) h
  have h2:=zEj (x::t)
  have h3:=zFl (x::t)
  have ht:=zIs x t
  rw[zOj _ h,List.foldl_append,ht]
  have hs:x::t=List.replicate (zAi (x::t)) x++(x::t).drop (zAi (x::t)):=by rw[<-ht,List.take_append_drop]
  generalize hn:zAi (x::t)=n at*
  by_cases hl:n<4
  ·have e:pk1 (List.replicate n x)=List.replicate n x:=by unfold pk1;rw[if_pos (by simpa using hl)]
   rw[e,zN5 x n r l o h1 (by omega) h4 hh2]
   obtain⟨r',l',hr',hx⟩:=ih n x (o++List.replicate n x) hl (.inr (fun c hc=>by
    rw[List.head?_drop]at hc
    obtain⟨hlt,hc2⟩:=List.getElem?_eq_some_iff.1 hc
    have:=zOe x t (by omega) (by rw[hn];exact hlt)
    simp only[hn]at this
    rw[hc2]at this
    exact fun e=>this e.symm))
   refine⟨r',l',hr',?_⟩
   rw[hx,List.append_assoc,<-hs]
  ·have e:pk1 (List.replicate n x)=List.replicate 4 x++[UInt8.ofNat (n-4)]:=by
    unfold pk1
    rw[if_neg (by simpa using hl),List.take_replicate,List.length_replicate,Nat.min_eq_left (by omega)]
   rw[e,List.foldl_append,zN5 x 4 r l o (by omega) (by omega) h4 hh2]
   have e2:List.foldl ust (4,x,o++List.replicate 4 x) [UInt8.ofNat (n-4)]=(0,x,o++List.replicate n x):=by
    rw[List.foldl_cons,List.foldl_nil]
    unfold ust
    rw[if_pos rfl]
    have e3:(UInt8.ofNat (n-4)).toNat=n-4:=by rw[UInt8.toNat_ofNat'];omega
    rw[e3]
    simp only[List.append_assoc,List.replicate_append_replicate]
    rw[show 4+(n-4)=n from by omega]
   rw[e2]
   obtain⟨r',l',hr',hx⟩:=ih 0 x (o++List.replicate n x) (by omega) (.inl rfl)
   refine⟨r',l',hr',?_⟩
   rw[hx,List.append_assoc,<-hs]
theorem zN6 (s:T):(zCm (pack s)).1<4/\(zCm (pack s)).2.2=s:=by
 obtain⟨r,l,h1,h2⟩:=zY1 s 0 0 [] (by omega) (.inl rfl)
 unfold zCm
 rw[h2]
 exact⟨h1,rfl⟩
theorem zI9 (s:T) (most:Int) (h:(s.length:Int)<=most):zEw (pack s) most=0:=by
 obtain⟨h1,h2⟩:=zN6 s
 unfold zEw
 rw[if_neg (by omega),h2,if_neg (by omega)]
theorem zQk (s:T) (most:Int) (h:(s.length:Int)<=most):zHr (pack s) most=s:=by
 unfold zHr
 rw[if_pos (zI9 s most h),(zN6 s).2]
theorem zUg (st:U) (c:UInt8) (i:Nat) (h4:st.1<=4) (h1:5*st.2.2.length+254*st.1<=259*i) (h2:4*i+st.1<=5*st.2.2.length):
  (ust st c).1<=4/\5*(ust st c).2.2.length+254*(ust st c).1<=259*(i+1)/\4*(i+1)+(ust st c).1<=5*(ust st c).2.2.length:=by
 have hc:=c.toNat_lt
 unfold ust
 split
 ·rename_i h
  simp only[List.length_append,List.length_replicate]
  omega
 ·split
  ·simp only[List.length_append,List.length_singleton]
   omega
  ·simp only[List.length_append,List.length_singleton]
   omega
theorem zKe (s:T):(zCm s).1<=4/\5*(zCm s).2.2.length+254*(zCm s).1<=259*s.length/\4*s.length+(zCm s).1<=5*(zCm s).2.2.length:=by
 have key:∀(s:T) (st:U) (i:Nat),st.1<=4->5*st.2.2.length+254*st.1<=259*i->4*i+st.1<=5*st.2.2.length->
   (s.foldl ust st).1<=4/\5*(s.foldl ust st).2.2.length+254*(s.foldl ust st).1<=259*(i+s.length)/\4*(i+s.length)+(s.foldl ust st).1<=5*(s.foldl ust st).2.2.length:=by
  intro s
  induction s with
  |nil=>intro st i h1 h2 h3;exact⟨h1,by simpa using h2,by simpa using h3⟩
  |cons c s ih=>
   intro st i h1 h2 h3
   obtain⟨k1,k2,k3⟩:=zUg st c i h1 h2 h3
   have:=ih (ust st c) (i+1) k1 k2 k3
   rw[List.foldl_cons,List.length_cons,show i+(s.length+1)=i+1+s.length from by omega]
   exact this
 have:=key s (0,0,[]) 0 (by simp) (by simp) (by simp)
 simpa [zCm]using this
def cut (s:T) (room:Int):Nat:=
 if h:s=[]then 0
 else if(zAv (zAi s):Int)<=room then zAi s+cut (s.drop (zAi s)) (room-zAv (zAi s))
 else min (min (max room 0).toNat 3) (zAi s)
termination_by s.length
decreasing_by
 have h1:=zBz s h
 have h2:=List.length_pos_iff.2 h
 rw[List.length_drop];omega
theorem zNu (room:Int):cut [] room=0:=by rw[cut];simp
theorem zLn (s:T) (room:Int) (h:s≠[]) (hr:(zAv (zAi s):Int)<=room):cut s room=zAi s+cut (s.drop (zAi s)) (room-zAv (zAi s)):=by rw[cut];rw[dif_neg h,if_pos hr]
theorem zGq (s:T) (room:Int) (h:s≠[]) (hr:¬(zAv (zAi s):Int)<=room):cut s room=min (min (max room 0).toNat 3) (zAi s):=by rw[cut];rw[dif_neg h,if_neg hr]
theorem zZj (x:UInt8) (k:Nat) (h1:1<=k) (h2:k<=255):zAi (List.replicate k x)=k:=by
 obtain⟨j,rfl⟩:∃j,k=j+1:=⟨k-1,by omega⟩
 rw[List.replicate_succ]
 refine zJl x _ (j+1) h1 h2 (by simp) ?_ (.inr (.inl (by simp)))
 rw[<-List.replicate_succ,List.take_replicate,Nat.min_self]
theorem qEi (x:UInt8) (k:Nat) (h2:k<=255):Len (List.replicate k x)=zAv k:=by
 by_cases h:k=0
 ·subst h;rw[List.replicate_zero,zFu];rfl
 ·have hne:List.replicate k x≠[]:=by intro e;have:=congrArg List.length e;simp at this;omega
  rw[zIj _ hne,zZj x k (by omega) h2]
  simp[zFu]
theorem zHj (s:T) (k:Nat) (hk:k<=zAi s):Len (s.take k)=zAv k:=by
 cases s with
 |nil=>simp[zAi]at hk;subst hk;simp[zFu,zAv]
 |cons x r=>
  have e:(x::r).take k=List.replicate k x:=by
   have:=congrArg (List.take k) (zIs x r)
   rw[List.take_take,List.take_replicate,Nat.min_eq_left hk]at this
   exact this
  rw[e]
  exact qEi x k (by have:=zEj (x::r);omega)
theorem zQ (s:T) (k:Nat) (hs:s≠[]) (hk:zAi s<=k):zAi (s.take k)=zAi s:=by
 cases s with
 |nil=>exact absurd rfl hs
 |cons x r=>
  have h1:=zBz (x::r) hs
  have h2:=zFl (x::r)
  obtain⟨j,rfl⟩:∃j,k=j+1:=⟨k-1,by omega⟩
  rw[List.take_succ_cons]
  have e:(x::r.take j)=(x::r).take (j+1):=by rw[List.take_succ_cons]
  refine zJl x (r.take j) _ h1 (zEj _) ?_ ?_ ?_
  ·rw[e,List.length_take];omega
  ·rw[e,List.take_take,Nat.min_eq_left (by omega)];exact zIs x r
  ·by_cases h3:zAi (x::r)=255
   ·exact .inl h3
   ·by_cases h4:zAi (x::r)=(x::r.take j).length
    ·exact .inr (.inl h4)
    ·have h5:zAi (x::r)<(x::r.take j).length:=by
      rw[e,List.length_take]at h4⊢;omega
     refine .inr (.inr ⟨h5,?_⟩)
     have h6:=zOe x r (by have:=zEj (x::r);omega) (by rw[e,List.length_take]at h5;omega)
     have e2:(x::r.take j)[zAi (x::r)]=(x::r)[zAi (x::r)]'(by rw[e,List.length_take]at h5;omega):=by
      simp only[e,List.getElem_take]
     rw[e2];exact h6
theorem zIl (s:T) (k:Nat) (hs:s≠[]) (hk:zAi s<=k):Len (s.take k)=zAv (zAi s)+Len ((s.drop (zAi s)).take (k-zAi s)):=by
 have h1:=zBz s hs
 have hne:s.take k≠[]:=by
  intro e
  have:=congrArg List.length e
  have h2:=zFl s
  have h3:=List.length_pos_iff.2 hs
  rw[List.length_take]at this;simp only[List.length_nil]at this;omega
 rw[zIj _ hne,zQ s k hs hk,List.drop_take]
theorem zLm (s:T):∀room:Int,0<=room->cut s room<=s.length/\(Len (s.take (cut s room)):Int)<=room/\(cut s room<s.length->room<(Len (s.take (cut s room+1)):Int)):=by
 refine zEi (M:=fun s=>∀room:Int,0<=room->cut s room<=s.length/\(Len (s.take (cut s room)):Int)<=room/\(cut s room<s.length->room<(Len (s.take (cut s room+1)):Int))) ?_ (fun s h ih=> ?_) s
 ·intro room h0
  rw[zNu]
  simp[zFu,h0]
 ·intro room h0
  have h1:=zBz s h
  have h2:=zFl s
  by_cases hr:(zAv (zAi s):Int)<=room
  ·rw[zLn s room h hr]
   obtain⟨i1,i2,i3⟩:=ih (room-zAv (zAi s)) (by omega)
   generalize cut (s.drop (zAi s)) (room-zAv (zAi s))=k at*
   rw[List.length_drop]at i1 i3
   refine⟨by omega,?_,fun hlt=> ?_⟩
   ·rw[zIl s _ h (by omega),show zAi s+k-zAi s=k from by omega];omega
   ·rw[zIl s _ h (by omega),show zAi s+k+1-zAi s=k+1 from by omega]
    have:=i3 (by omega)
    omega
  ·rw[zGq s room h hr]
   have hmin:min (min (max room 0).toNat 3) (zAi s)<=zAi s:=Nat.min_le_right _ _
   refine⟨by omega,?_,fun hlt=> ?_⟩
   ·rw[zHj s _ hmin]
    unfold zAv at*
    split<;>split at hr<;>omega
   ·rw[zHj s _ (by unfold zAv at hr;split at hr<;>omega)]
    unfold zAv at*
    split<;>split at hr<;>omega
theorem zZw (n:Nat) (h:1<=n):1<=zAv n:=by unfold zAv;split<;>omega
theorem qBc (s:T) (room:Int) (h:room<=0):cut s room=0:=by
 by_cases hs:s=[]
 ·rw[hs,zNu]
 ·have:=zZw _ (zBz s hs)
  rw[zGq s room hs (by omega),show(max room 0).toNat=0 from by omega]
  simp
theorem zJ2 (s:T) (room:Int) (hs:s≠[]) (h:1<=room):1<=cut s room:=by
 have h1:=zBz s hs
 by_cases hr:(zAv (zAi s):Int)<=room
 ·rw[zLn s room hs hr];omega
 ·rw[zGq s room hs hr];omega
theorem qGb (s:T) (room:Int):cut s room<=s.length:=by
 by_cases h:0<=room
 ·exact(zLm s room h).1
 ·rw[qBc s room (by omega)];exact Nat.zero_le _
end Rle
namespace Bk
open Tn Zr Ch Hf Bt Wg
def zA0 (t:Nat->List Nat) (m:List Nat) (p n:Nat):List Bool:=(List.range' p n).flatMap fun q=>word (t (q/10)) (m.getD q 0)
theorem zJa (t:Nat->List Nat) (m:List Nat) (p n:Nat):zA0 t m p (n+1)=word (t (p/10)) (m.getD p 0)++zA0 t m (p+1) n:=by
 unfold zA0;rw[List.range'_succ,List.flatMap_cons]
theorem body_add (t:Nat->List Nat) (m:List Nat) (p a b:Nat):zA0 t m p (a+b)=zA0 t m p a++zA0 t m (p+a) b:=by
 unfold zA0;rw[<-List.range'_append_1,List.flatMap_append]
theorem zMw (t:Nat->List Nat) (m:List Nat) (i:Nat):∀(k j:Nat),j+k<=10->10*i+j+k<=m.length->zA0 t m (10*i+j) k=(((m.drop (10*i+j)).take k).flatMap (word (t i)))
 |0,j,_,_=>by simp[zA0]
 |k+1,j,h1,h2=>by
  have hd:m.drop (10*i+j)=m[10*i+j]::m.drop (10*i+j+1):=List.drop_eq_getElem_cons (by omega)
  rw[zJa,show 10*i+j+1=10*i+(j+1)by omega,zMw t m i k (j+1) (by omega) (by omega),hd,List.take_succ_cons,List.flatMap_cons]
  rw[show(10*i+j)/10=i by omega,List.getD_eq_getElem?_getD,List.getElem?_eq_getElem (by omega)]
  rfl
def zNp (t:Nat->List Nat) (m:List Nat) (n:Nat):List Bool:=(List.range n).flatMap fun i=>((grp m).getD i []).flatMap (word (t i))
theorem zXy (t:Nat->List Nat) (m:List Nat) (n:Nat):zNp t m (n+1)=zNp t m n++((grp m).getD n []).flatMap (word (t n)):=by
 unfold zNp;rw[List.range_succ,List.flatMap_append];simp
theorem zOx (t:Nat->List Nat) (m:List Nat):∀n,n<=(grp m).length->zNp t m n=zA0 t m 0 (min (10*n) m.length)
 |0,_=>by simp[zNp,zA0]
 |n+1,h=>by
  rw[zBx]at h
  have ih:=zOx t m n (by rw[zBx];omega)
  have hg:=zJy m n (by omega)
  rw[zXy,ih,List.getD_eq_getElem?_getD,hg,Option.getD_some]
  obtain⟨k,hk⟩:∃k,min (10*(n+1)) m.length=10*n+k:=⟨min (10*(n+1)) m.length-10*n,by omega⟩
  rw[hk,show min (10*n) m.length=10*n by omega,body_add,Nat.zero_add]
  congr 1
  have:=zMw t m n k 0 (by omega) (by omega)
  rw[Nat.add_zero]at this
  rw[this]
  congr 1
  apply List.ext_getElem?
  intro j
  rw[List.getElem?_take,List.getElem?_take]
  by_cases h1:j<k
  ·rw[if_pos h1,if_pos (by omega)]
  ·rw[if_neg h1]
   split
   ·rw[List.getElem?_drop,List.getElem?_eq_none (by omega)]
   ·rfl
end Bk
end Go.Proofs.YtppnakkaljbmbaaGreatDoor
