/- Steps of a proof; no condition beyond what each states. -/
import Derived.Laws.CopyOwn
import Derived.Lib.BytesEntry
import Derived.Test.YtppnakkaljbmbaaGreatDoorZU06
set_option linter.unusedVariables false
set_option linter.unusedSimpArgs false
set_option maxRecDepth 100000
set_option maxHeartbeats 8000000
namespace Go.Proofs.YtppnakkaljbmbaaGreatDoor
namespace Front
open Go.RowKit
theorem zQi {a b:Bool} (h:a=b):Ending.returned (.bool a)= .returned (.bool b):=by rw[h]
theorem zAl (s:ByteArray):s.data.toList.length=s.size:=by simp
theorem zLh (s:ByteArray) (k:Nat) (h:k<s.size):s.data.toList[k]'(by rw[zAl];exact h)=s[k]:=rfl
@[irreducible] def had (l:T) (i:Nat):Value:= .bool (decide (UInt8.ofNat i∈l))
@[irreducible] def zEm (l:T):Array Value:=((List.range 256).map (had l)).toArray
theorem zXw (l:T):(zEm l).size=256:=by simp[zEm]
theorem qAv (l:T) (x:UInt8):(zEm l)[x.toNat]? =some (.bool (decide (x∈l))):=by
 have:=x.toNat_lt
 have h:x.toNat<256:=by omega
 simp[zEm,had,h]
theorem qAu (l:T) (x:UInt8):(zEm l).setIfInBounds x.toNat (.bool true)=zEm (l++[x]):=by
 apply Array.ext
 ·simp[zEm]
 ·intro i h1 h2
  have h3:i<256:=by simpa [zEm]using h2
  rw[Array.getElem_setIfInBounds]
  ·split
   ·rename_i h;subst h;simp[zEm,had]
   ·rename_i h
    have hne:¬UInt8.ofNat i=x:=by
     intro e;apply h;rw[<-e];simp;omega
    simp[zEm,had,hne]
  ·simpa [zEm]using h3
theorem zV2 (w:World):(zeroValue 146).run Tryz.prog w= .ok (.agg (zEm [])) w:=by
 kernel_rfl
theorem zGf (s:ByteArray) (hs:s.size<=maxLen) (w:World):
  Calls Tryz.prog 111 #[.string s] w fun e w'=>e= .returned (.bool (right s.data.toList))/\Below w.heap.size w w':=by
 unfold maxLen at hs
 have hz:=zV2
 go_enter Tryz.func111,Tryz.ntmps111
 go_wp2
 go_loopw [7] (fun i wr=>∃k:Nat,k<=s.size/\i= .int .i64 k/\wr=w.alloc (.cells (zEm (s.data.toList.take k)) 146)/\(s.data.toList.take k).Nodup) (fun i _=>s.size-(intOf i).toNat)
 case atStart=>exact⟨0,by omega,rfl,rfl,by simp⟩
 case round=>
  obtain⟨k,hk,rfl,rfl,hno⟩:=hrel
  have HNO:=zH hno
  clear hno
  by_cases hlt:k<s.size
  ·have hg:=qAv (s.data.toList.take k) s[k]
   have hsz:=zXw (s.data.toList.take k)
   have hb1:(s[k].toNat:Int)<256:=by have:=s[k].toNat_lt;omega
   have hb0:(0:Int)<=(s[k].toNat:Int):=by omega
   by_cases he:s[k]∈s.data.toList.take k
   ·rw[decide_eq_true he]at hg
    have HE:=zH he
    clear he
    go_wp2
    go_ret
    exact⟨zQi (zGw _ k (by rw[zAl];exact hlt) HE.out).symm,(Below.refl _ _).alloc (Nat.le_refl _) _⟩
   ·rw[decide_eq_false he]at hg
    have HE:=zH he
    clear he
    go_wp2
    go_roundw
    case rel=>
     refine⟨k+1,by omega,by go_num,?_,(zGl _ k (by rw[zAl];exact hlt)).2 ⟨HNO.out,HE.out⟩⟩
     rw[qAu,List.take_succ_eq_append_getElem (by rw[zAl];exact hlt)];rfl
    case measure=>simp[intOf];omega
  ·go_wp2
   go_ret
   refine⟨zQi ?_,(Below.refl _ _).alloc (Nat.le_refl _) _⟩
   have h:=HNO.out
   rw[List.take_of_length_le (by rw[zAl];omega)]at h
   exact((zIu _).2 h).symm
end Front
namespace Front
open Go.RowKit
open Kit (zAe)
variable {w w' a b:World} {g B:Nat} {row:Option Nat}
def Byt (w:World) (g:Nat) (l:T):Prop:=g<w.heap.size/\(∀j,j<l.length->w.cell? ⟨g,j,none⟩=some (zAe (l.getD j 0)))/\∀j,j<l.length->w.frozen? ⟨g,j,none⟩=false
theorem Byt.below {l:T} (h:Byt w g l) (hb:Below B w w') (hg:g<B):Byt w' g l:=
 ⟨by have:=h.1;have:=hb.size;omega,fun j hj=>by rw[hb.cell (p:=⟨g,j,none⟩) hg];exact h.2.1 j hj,fun j hj=>by rw[hb.frozen (p:=⟨g,j,none⟩) hg];exact h.2.2 j hj⟩
theorem Byt.grown {l:T} (h:Byt w g l) (hb:w.grownBy w' row) (hg:some g≠row):Byt w' g l:=by
 have e:=hb.block g h.1 hg
 exact⟨by have:=h.1;have:=hb.size;omega,fun j hj=>by rw[World.cell?_of_block (w:=w) (a:=⟨g,j,none⟩) e];exact h.2.1 j hj,fun j hj=>by rw[World.frozen?_of_block (w:=w) (a:=⟨g,j,none⟩) e];exact h.2.2 j hj⟩
theorem getD_at (l:T) (j:Nat) (h:j<l.length):l.getD j 0=l[j]:=by rw[List.getD,List.getElem?_eq_getElem h,Option.getD_some]
theorem Byt.src {l:T} (h:Byt w g l):Kit.Src w (some ⟨g,0,none⟩) (l.map zAe):=by
 intro j u hu
 rw[List.getElem?_map]at hu
 obtain⟨x,hx,rfl⟩:=Option.map_eq_some_iff.1 hu
 obtain⟨hj,rfl⟩:=List.getElem?_eq_some_iff.1 hx
 exact⟨g,0,rfl,by rw[Nat.zero_add,<-getD_at l j hj];exact h.2.1 j hj⟩
theorem Byt.new (w:World) (t:ByteArray) (cp e:Nat):Byt (w.drew.alloc (.cells (bytesRow t cp) e ((bytesRow t cp).size,(bytesRow t cp).size+1))) w.heap.size t.data.toList:=by
 refine⟨by simp,fun j hj=> ?_,fun j hj=> ?_⟩
 ·have h:=World.cell?_alloc_mark w.drew (bytesRow t cp) e ((bytesRow t cp).size,(bytesRow t cp).size+1) j
  have hj2:j<t.data.size:=by simpa using hj
  refine Eq.trans h ?_
  rw[bytesRow_at t cp j hj2,getD_at _ j hj];rfl
 ·have h:=World.frozen?_alloc_mark w.drew (bytesRow t cp) e (bytesRow t cp).size ((bytesRow t cp).size+1) j
  refine Eq.trans h ?_
  have hj2:j<t.data.size:=by simpa using hj
  have:t.data.size<=(bytesRow t cp).size:=by unfold bytesRow;simp
  have h1:¬(bytesRow t cp).size<=j:=by omega
  simp[h1]
theorem zH7 (w:World) (row:Option Nat):w.grownBy w row:=⟨rfl,rfl,rfl,Nat.le_refl _,fun _ _ _=>rfl⟩
theorem zCd {c:World} (h:a.grownBy b row) (k:b.grownBy c row):a.grownBy c row:=
 ⟨k.os.trans h.os,k.tape.trans h.tape,k.output.trans h.output,Nat.le_trans h.size k.size,fun i hi hr=>(k.block i (by have:=h.size;omega) hr).trans (h.block i hi hr)⟩
theorem zMj (h:a.grownBy b row):a.grownBy b.drew row:=⟨h.os,h.tape,h.output,h.size,h.block⟩
theorem zKm (h:a.grownBy b row) (o:Obj):a.grownBy (b.alloc o) row:=zCd h (World.grownBy_alloc b o row)
theorem zBv (w:World) (g j:Nat) (v:Value):w.grownBy (w.setCell ⟨g,j,none⟩ v) (some g):=
 ⟨rfl,rfl,rfl,by simp[World.setCell],fun k hk hr=>Below.heap_setCell _ _ _ _ (fun e=>hr (by rw[e]))⟩
theorem zFf (g:Nat):∀(vs:List Value) (o:Nat) (w:World),w.grownBy (w.setCells g o vs) (some g)
 |[],_,w=>zH7 w _
 |v::r,o,w=>zCd (zBv w g o v) (zFf g r (o+1) _)
theorem zCi (h:w.grownBy w' (some g)) (hB:B<=g) (hw:B<=w.heap.size):Below B w w':=
 (Below.refl _ _).grown h hw (fun k hk=>by injection hk with hk;omega)
theorem zRc (l:T) (c:UInt8):Lib.indexByte l c=zDp l c:=by
 induction l with
 |nil=>rfl
 |cons x l ih=>
  rw[Lib.indexByte]
  by_cases h:x=c
  ·subst h
   unfold zDp
   simp
  ·have h1:(x==c)=false:=by simpa using h
   rw[h1]
   simp only[Bool.false_eq_true,if_false]
   rw[ih]
   by_cases hm:c∈l
   ·have e1:zDp l c=(l.idxOf c:Int):=by unfold zDp;rw[if_pos hm]
    have e2:zDp (x::l) c=((l.idxOf c+1:Nat):Int):=by
     unfold zDp;rw[if_pos (List.mem_cons_of_mem _ hm),List.idxOf_cons,h1];rfl
    have:((l.idxOf c:Int)== -1)=false:=by simp
    rw[e1,e2,this]
    simp
   ·have e1:zDp l c= -1:=by unfold zDp;rw[if_neg hm]
    have e2:zDp (x::l) c= -1:=by
     unfold zDp;rw[if_neg]
     intro h2
     rcases List.mem_cons.1 h2 with h3|h3
     ·exact h h3.symm
     ·exact hm h3
    rw[e1,e2];rfl
theorem zRu (l:T):Lib.bytesOf (l.map fun x=>(x.toNat:Int))=l:=by
 unfold Lib.bytesOf
 rw[List.map_map]
 conv=>rhs;rw[<-List.map_id l]
 apply List.map_congr_left
 intro x _
 simp
theorem zOw (w:World) (g n cp:Nat) (l:T) (c:UInt8) (hl:l.length=n) (hb:Byt w g l):
  Calls Tryz.prog 201 #[.slice (some ⟨g,0,none⟩) n cp,.int .u8 (c.toNat:Int)] w fun e w'=>e= .returned (.int .i64 (zDp l c))/\w=w':=by
 have hrun:=Lib.run_indexByteSlice (P:=Tryz.prog) w g 0 n cp (l.map fun x=>(x.toNat:Int)) (by rw[List.length_map];exact hl) (fun i hi=>by
  rw[Nat.zero_add,hb.2.1 i (by omega),getD_at l i (by omega)]
  have h2:i<(l.map fun x=>(x.toNat:Int)).length:=by rw[List.length_map];omega
  rw[List.getD,List.getElem?_eq_getElem h2,Option.getD_some,List.getElem_map];rfl) (c.toNat:Int)
 rw[zRu,show((c.toNat:Int).toNat.toUInt8)=c from by simp,zRc]at hrun
 go_enter Tryz.func201,Tryz.ntmps201
 go_wp2
 rw[run_callFunc_extern Tryz.func259 (by kernel_rfl) (by kernel_rfl) (by kernel_rfl) (e:=Extern.BytealgIndexByte.indexByte) (by kernel_rfl),hrun]
 simp only[Result.andThen]
 rw[Oper.upon_value]
 go_wp2
 go_ret
 exact⟨rfl,rfl⟩
theorem copy_eq {P:Program} {ops:Array Oper} {rest:List Oper} {o:Oper} {a:Act} {Q:Exit->Act->World->Prop} (hw:Region.wanted o (yielded ops a.tmps)=true) (s x:Operand) (t:TypeId)
  (ho:o.op= .call {callee:= .builtin .copy,args:= #[s,x],argTypes:= #[t,t]}) {v y v':Value} (hs:a.eval s=v) (hx:a.eval x=y)
  (hr:(Builtin.copy_ #[t,t] o.type #[v,y]).run P w= .ok v' w') (h:wpList P ops Q rest (a.put o.dst v') w'):wpList P ops Q (o::rest) a w:=by
 refine BigFrame.wpList_want hw fun K hK=> ?_
 unfold Oper.wp execOp
 simp only[ho,resolve,invoke,builtin,Sem.run_bind,Sem.run_pure,Result.andThen_ok,List.map_toArray,List.map_cons,List.map_nil,hs,hx,hr]
 exact hK _ _ h
theorem zVj (l:T) (k:Nat) (hk:k<l.length) (j:Nat) (hj:j<l.length):(bring l k).getD j 0=if j=0 then l.getD k 0 else if j<=k then l.getD (j-1) 0 else l.getD j 0:=by
 unfold bring
 by_cases h0:j=0
 ·subst h0
  rw[if_pos rfl];rfl
 ·obtain⟨i,rfl⟩:∃i,j=i+1:=⟨j-1,by omega⟩
  have hi:i<(l.eraseIdx k).length:=by rw[List.length_eraseIdx_of_lt hk];omega
  rw[if_neg h0]
  show(l.eraseIdx k).getD i 0=_
  rw[getD_at _ i hi,List.getElem_eraseIdx]
  split
  ·rw[if_pos (by omega),getD_at _ _ (by omega)];rfl
  ·rw[if_neg (by omega),getD_at _ _ hj]
theorem Byt.brought {l:T} (h:Byt w g l) (k:Nat) (hk:k<l.length):
  Byt ((w.setCells g 1 ((l.take k).map zAe)).setCell ⟨g,0,none⟩ (zAe (l.getD k 0))) g (bring l k):=by
 have hlen:=zD6 l k hk
 have hsz:w.heap.size<=((w.setCells g 1 ((l.take k).map zAe)).setCell ⟨g,0,none⟩ (zAe (l.getD k 0))).heap.size:=by
  have:=(zFf g ((l.take k).map zAe) 1 w).size
  simpa [World.setCell]using this
 refine⟨by have:=h.1;omega,fun j hj=> ?_,fun j hj=> ?_⟩
 ·rw[zVj l k hk j (by omega)]
  have hin:∀i (hi:i<((l.take k).map zAe).length),(w.setCells g 1 ((l.take k).map zAe)).cell? ⟨g,1+i,none⟩=some ((l.take k).map zAe)[i]:=by
   refine World.cell?_setCells_in g _ 1 w fun i hi=> ?_
   have hi2:i<k:=by simp at hi;omega
   rw[h.2.1 (1+i) (by omega)];rfl
  by_cases h0:j=0
  ·subst h0
   rw[if_pos rfl]
   have hc:(w.setCells g 1 ((l.take k).map zAe)).cell? ⟨g,0,none⟩=some (zAe (l.getD 0 0)):=by
    rw[World.cell?_setCells_out g _ 1 w ⟨g,0,none⟩ (fun _ _=> .inl (by simp)),h.2.1 0 (by omega)]
   exact World.cell?_setCell_same _ _ _ hc
  ·rw[if_neg h0]
   rw[World.cell?_setCell_other _ _ _ _ (by intro e;injection e with _ e2 _;omega)]
   by_cases hjk:j<=k
   ·rw[if_pos hjk]
    obtain⟨i,rfl⟩:∃i,j=1+i:=⟨j-1,by omega⟩
    have hi:i<((l.take k).map zAe).length:=by simp;omega
    rw[hin i hi,List.getElem_map,List.getElem_take,show 1+i-1=i from by omega,getD_at l i (by omega)]
   ·rw[if_neg hjk,World.cell?_setCells_out g _ 1 w ⟨g,j,none⟩ (fun _ _=> .inr (by simp;omega)),h.2.1 j (by omega)]
 ·have e:((w.setCells g 1 ((l.take k).map zAe)).setCell ⟨g,0,none⟩ (zAe (l.getD k 0))).frozen? ⟨g,j,none⟩=w.frozen? ⟨g,j,none⟩:=by
   rw[World.frozen?_setCell,World.frozen?_setCells]
  rw[e];exact h.2.2 j (by omega)
theorem zDo (w:World) (g n cp:Nat) (l:T) (k:Nat) (hl:l.length=n) (hk:k<n) (hb:Byt w g l) (ty:TypeId):
  ∃a,a=(if cp=1 then(⟨g,0,none⟩:Addr)else⟨g,1,none⟩)/\(n<=cp->(Builtin.copy_ #[109,109] ty #[.slice (some a) (n-1) (cp-1),.slice (some ⟨g,0,none⟩) k cp]).run Tryz.prog w= .ok (goInt k) (w.setCells g 1 ((l.take k).map zAe))):=by
 refine⟨_,rfl,fun hcp=> ?_⟩
 have hsz:(Tryz.prog.info? 5).map (·.size)=some 1:=by kernel_rfl
 by_cases h1:k=0
 ·subst h1
  have:=run_copy_none (P:=Tryz.prog) w 109 109 ty 5 (some (if cp=1 then(⟨g,0,none⟩:Addr)else⟨g,1,none⟩)) (some ⟨g,0,none⟩) (n-1) (cp-1) 0 cp Tryz.underlying109 hsz (by show Nat.min 0 _=0;simp)
  exact this
 ·rw[if_neg (by omega)]
  have hlen:((l.take k).map zAe).length=k:=by simp;omega
  have:=run_copy_cells (P:=Tryz.prog) w 109 109 ty 5 g 1 (n-1) (cp-1) ⟨g,0,none⟩ k cp ((l.take k).map zAe) Tryz.underlying109 hsz (by rw[hlen];show k=min k (n-1);omega)
   (fun j v hj=>by
    obtain⟨b',off',e,hc⟩:=(hb.src) j v (by
     rw[List.getElem?_map]at hj⊢
     rw[List.getElem?_take]at hj
     split at hj
     ·exact hj
     ·cases hj)
    injection e with e
    injection e with e1 e2
    subst e1 e2
    rw[Kit.addr_add];exact hc)
   (fun j hj=>by rw[hb.2.1 (1+j) (by omega)];rfl) (fun j hj=>hb.2.2 (1+j) (by omega)) (Kit.zG _)
  rw[hlen]at this
  exact this
end Front
namespace Front
open Go.RowKit
open Kit (zAe)
theorem zPy (w:World) (g n cp:Nat) (l:T) (k:Nat) (hl:l.length=n) (hk:k<n) (hcp:n<=cp) (hm:cp<=maxLen) (hb:Byt w g l):
  Calls Tryz.prog 112 #[.agg #[.slice (some ⟨g,0,none⟩) n cp],.int .i64 (k:Int)] w fun e w'=>e= .returned (.int .u8 ((l.getD k 0).toNat:Int))/\Byt w' g (bring l k)/\w.grownBy w' (some g):=by
 unfold maxLen at hm
 have hkl:k<l.length:=by omega
 obtain⟨x,hx⟩:=zB (l.getD k 0)
 have hb2:=hb.below (B:=w.heap.size) ((Below.refl _ _).alloc (Nat.le_refl _) (.cells #[.slice (some ⟨g,0,none⟩) n cp] 150)) hb.1
 have hb3:Byt (w.alloc (.cells #[.slice (some ⟨g,0,none⟩) n cp] 150)).drew g l:=hb2
 obtain⟨W,hW⟩:∃W,W=(w.alloc (.cells #[.slice (some ⟨g,0,none⟩) n cp] 150)).drew:=⟨_,rfl⟩
 rw[<-hW]at hb3
 obtain⟨a,ha,hrun0⟩:=zDo W g n cp l k hl hk hb3 3
 have hrun1:=hrun0 hcp
 clear hrun0
 have HR:=zH hrun1
 have HA:=zH ha
 clear hrun1 ha
 have hck:=hb.2.1 k hkl
 have hbr:=hb3.brought k hkl
 have hc0:(W.setCells g 1 ((l.take k).map zAe)).cell? ⟨g,0,none⟩=some (zAe (l.getD 0 0)):=by
  rw[World.cell?_setCells_out g _ 1 W ⟨g,0,none⟩ (fun _ _=> .inl (by simp)),hb3.2.1 0 (by omega)]
 have hf0:(W.setCells g 1 ((l.take k).map zAe)).frozen? ⟨g,0,none⟩=false:=by
  rw[World.frozen?_setCells];exact hb3.2.2 0 (by omega)
 have hq:(W.setCells g 1 ((l.take k).map zAe)).cell? ⟨w.heap.size,0,none⟩=some (.slice (some ⟨g,0,none⟩) n cp):=by
  rw[World.cell?_setCells_out g _ 1 W ⟨w.heap.size,0,none⟩ (fun h _=>by have:=hb.1;simp only at h;omega),hW]
  simp
 have hgl:=hb.1
 rw[hx]at hck hbr
 have hck2:w.cell? ⟨g,k,none⟩=some (.int .u8 (x.toNat:Int)):=hck
 have HB:=zH hbr
 have HX:=zH hx
 have HW:=zH hW
 obtain⟨V,hV⟩:∃V,V=W.setCells g 1 ((l.take k).map zAe):=⟨_,rfl⟩
 rw[<-hV]at hc0 hf0 hq
 have HV:=zH hV
 have HC0:=zH hc0
 have HF0:=zH hf0
 have HQ:=zH hq
 clear hb hb2 hb3 hx hck hl hkl hbr hW hV hc0 hf0 hq
 have i1:(1:Int)<=(n:Int):=by omega
 have i2:(k:Int)<(n:Int):=by omega
 have i3:(k:Int)<=(cp:Int):=by omega
 have i4:(n:Int)<=(cp:Int):=by omega
 have i5:(0:Int)<=(k:Int):=by omega
 by_cases hcp1:cp=1
 ·have hn1:n=1:=by omega
  have hk0:k=0:=by omega
  subst hcp1 hn1 hk0
  go_enter Tryz.func112,Tryz.ntmps112
  go_wp2
  refine wp_region_still_tail 7 (by kernel_rfl) (by kernel_rfl) ?_
  simp only[List.take_succ_cons,List.take_zero,List.drop_succ_cons,List.drop_zero]
  change wpStill _ _ ((w.alloc (.cells #[.slice (some ⟨g,0,none⟩) 1 _] 150)).drew) _ _ _
  repeat still_step
  try refine wpStill_nil ?_
  have hrun:=HR.out
  simp only[HA.out,if_true,HW.out]at hrun
  refine copy_eq rfl (.tmp 13) (.tmp 17) 109 rfl rfl rfl hrun ?_
  have hV2:=HV.out
  rw[HW.out]at hV2
  rw[<-hV2]
  clear hrun hV2
  have hc0:=HC0.out
  have hf0:=HF0.out
  have hq:=HQ.out
  go_wp2
  go_ret
  refine⟨by rw[HX.out];rfl,?_,?_⟩
  ·rw[HV.out];exact HB.out
  ·rw[HV.out,HW.out]
   exact zCd (zMj (zKm (zH7 _ _) _)) (zCd (zFf g _ 1 _) (zBv _ g 0 _))
 ·go_enter Tryz.func112,Tryz.ntmps112
  go_wp2
  refine wp_region_still_tail 7 (by kernel_rfl) (by kernel_rfl) ?_
  simp only[List.take_succ_cons,List.take_zero,List.drop_succ_cons,List.drop_zero]
  change wpStill _ _ ((w.alloc (.cells #[.slice (some ⟨g,0,none⟩) n _] 150)).drew) _ _ _
  repeat still_step
  try refine wpStill_nil ?_
  have hrun:=HR.out
  rw[HA.out,if_neg hcp1,HW.out]at hrun
  refine copy_eq rfl (.tmp 13) (.tmp 17) 109 rfl rfl rfl hrun ?_
  have hV2:=HV.out
  rw[HW.out]at hV2
  rw[<-hV2]
  clear hrun hV2
  have hc0:=HC0.out
  have hf0:=HF0.out
  have hq:=HQ.out
  go_wp2
  go_ret
  refine⟨by rw[HX.out];rfl,?_,?_⟩
  ·rw[HV.out];exact HB.out
  ·rw[HV.out,HW.out]
   exact zCd (zMj (zKm (zH7 _ _) _)) (zCd (zFf g _ 1 _) (zBv _ g 0 _))
end Front
namespace Front
open Go.RowKit
open Kit (zAe)
variable {w w':World} {row:Option Nat} {p:Addr} {B n c:Nat} {e:TypeId} {a:Option Addr} {xs:List Value}
abbrev ival (n:Nat):Value:= .int .i64 (n:Int)
theorem zDr (l:List Nat):∀u∈l.map ival,u.oneCell'=true:=by
 intro u hu
 obtain⟨x,_,rfl⟩:=List.mem_map.1 hu
 rfl
theorem zFn:Kit.One Tryz.prog 23 3 8:=⟨Tryz.underlying23,.int .i64 0,by kernel_rfl,rfl⟩
theorem cell_grown {v:Value} (hg:w.grownBy w' row) (hc:w.cell? p=some v) (h:some p.block≠row):w'.cell? p=some v:=by
 have e:=hg.block p.block (block_lt_of_cell hc) h
 rw[World.cell?_of_block (w:=w) (a:=p) e];exact hc
theorem zF7 (hg:w.grownBy w' row) (hp:p.block<w.heap.size) (h:some p.block≠row):w'.frozen? p=w.frozen? p:=by
 have e:=hg.block p.block hp h
 rw[World.frozen?_of_block (w:=w) (a:=p) e]
theorem zIx {g:Nat} (h:Kit.Own w B e a n c xs) (hb:w.grownBy w' (some g)) (hg:g<B):Kit.Own w' B e a n c xs:=by
 obtain⟨h1,h2⟩:=h
 refine⟨h1,?_⟩
 rcases h2 with h2|⟨g',cap,cur,hv,hbg,hgg,r⟩
 ·exact .inl h2
 ·refine .inr ⟨g',cap,cur,hv,hbg,?_,r⟩
  have hlt:g'<w.heap.size:=by
   rcases Nat.lt_or_ge g' w.heap.size with hlt|hge
   ·exact hlt
   ·rw[Array.getElem?_eq_none hge]at hgg;cases hgg
  rw[hb.block g' hlt (by intro e;injection e with e;omega),hgg]
theorem zNd (h:Kit.Own w B e a n c xs) (g j:Nat) (v:Value) (hg:g<B):Kit.Own (w.setCell ⟨g,j,none⟩ v) B e a n c xs:=
 zIx h (zBv w g j v) hg
structure Tel (w:World) (b g n cp B:Nat) (l:T) (ps:List Nat):Prop where
 byt:Byt w g l
 len:l.length=n
 ncp:n<=cp
 cpm:cp<=maxLen
 gB:g<B
 bB:b<B
 ne:g≠b
 BB:B<=w.heap.size
 bytes:w.cell? ⟨b,0,none⟩=some (.slice (some ⟨g,0,none⟩) n cp)
 places:∃a c,Kit.Own w B 3 a ps.length c (ps.map ival)/\w.cell? ⟨b,1,none⟩=some (.slice a ps.length c)
 free:w.frozen? ⟨b,1,none⟩=false
theorem zY8 (w:World) (b g n cp B D:Nat) (l:T) (ps:List Nat) (x:UInt8) (h:Tel w b g n cp B l ps) (hps:ps.length<1000000) (hDg:D<=g) (hDb:D<=b):
  Calls Tryz.prog 150 #[.pointer (some ⟨b,0,none⟩),.int .u8 (x.toNat:Int)] w fun e w'=>
   (¬x∈l/\e= .returned (.bool false)/\w=w')\/(x∈l/\e= .returned (.bool true)/\Tel w' b g n cp B (mtf l x) (ps++[l.idxOf x])/\Below D w w'):=by
 have H:=zH h
 have hc0:=h.bytes
 have hlen:=h.len
 by_cases hx:x∈l
 ·have hp:zDp l x=(l.idxOf x:Int):=by unfold zDp;rw[if_pos hx]
  have hlt:=List.idxOf_lt_length_of_mem hx
  obtain⟨k,hk⟩:=zB (l.idxOf x)
  rw[hk]at hp hlt
  have hP:=zH hp
  have HK:=zH hk
  have HX:=zH hx
  have hkn:k<n:=by omega
  obtain⟨a,c,hown,hc1⟩:=h.places
  have hbs:b<w.heap.size:=by have:=h.bB;have:=h.BB;omega
  have hgs:=h.byt.1
  obtain⟨a1,c1,w1,hr1,ho1,hg1⟩:=Kit.Own.app (ty:=23) (w:=w.alloc (.cells #[.int .i64 (k:Int)] 3)) zFn (hown.alloc _) (some ⟨w.heap.size,0,none⟩) 1 1 [ival k] (Kit.zAs w _ 3) rfl (fun h=>by cases h) (fun u hu=>by rw[List.mem_singleton]at hu;subst hu;rfl) (by unfold maxLen;omega) (by omega) (by have:=h.BB;simp;omega)
  have hnb:∀q,q<B->some q≠(Value.slice a ps.length c).ownBlock:=fun q hq e=>by have:=(hown.block) q e.symm;omega
  have hcb1:w1.cell? ⟨b,1,none⟩=some (.slice a ps.length c):=cell_grown hg1 (cell_grown (World.grownBy_alloc w _ none) hc1 (by simp)) (hnb b h.bB)
  have hcb0:w1.cell? ⟨b,0,none⟩=some (.slice (some ⟨g,0,none⟩) n cp):=cell_grown hg1 (cell_grown (World.grownBy_alloc w _ none) h.bytes (by simp)) (hnb b h.bB)
  have hfb:w1.frozen? ⟨b,1,none⟩=false:=by
   rw[zF7 hg1 (by simp;omega) (hnb b h.bB),zF7 (World.grownBy_alloc w _ none) (by exact hbs) (by simp)];exact h.free
  have hby1:Byt w1 g l:=(h.byt.grown (World.grownBy_alloc w _ none) (by simp)).grown hg1 (hnb g h.gB)
  have hby2:Byt (w1.setCell ⟨b,1,none⟩ (.slice a1 (ps.length+1) c1)) g l:=hby1.grown (zBv w1 b 1 _) (fun e=>h.ne (by injection e))
  have hcg0:(w1.setCell ⟨b,1,none⟩ (.slice a1 (ps.length+1) c1)).cell? ⟨b,0,none⟩=some (.slice (some ⟨g,0,none⟩) n cp):=by
   rw[World.cell?_setCell_other _ _ _ _ (by intro e;injection e with _ e2 _;omega)];exact hcb0
  have hcg1:(w1.setCell ⟨b,1,none⟩ (.slice a1 (ps.length+1) c1)).cell? ⟨b,1,none⟩=some (.slice a1 (ps.length+1) c1):=World.cell?_setCell_same _ _ _ hcb1
  have hfg:(w1.setCell ⟨b,1,none⟩ (.slice a1 (ps.length+1) c1)).frozen? ⟨b,1,none⟩=false:=by rw[World.frozen?_setCell];exact hfb
  have hsz1:w.heap.size<=w1.heap.size:=by have:=hg1.size;simp at this;omega
  have hbel:Below D w (w1.setCell ⟨b,1,none⟩ (.slice a1 (ps.length+1) c1)):=by
   refine Below.trans ((Below.refl _ _).alloc (by omega) _) (Below.trans ((Below.refl _ _).grown hg1 (by simp;omega) (fun q hq=>by have:=hown.block q hq;have:=h.gB;omega)) (zCi (zBv w1 b 1 _) hDb (by omega)))
  have hob:∀q,(Value.slice a1 (ps.length+1) c1).ownBlock=some q->B<=q:=ho1.block
  have HO:=zH ho1
  have HG:=zH hcg0
  have HG1:=zH hcg1
  have HFG:=zH hfg
  have HBEL:=zH hbel
  have HBY:=zH hby2
  have HOB:=zH hob
  clear ho1 hcg0 hcg1 hfg hbel hby2 hby1 hob hg1 hnb hown hlen hlt hp hk hx h
  go_enter Tryz.func150,Tryz.ntmps150
  go_wp2_with fail
  refine(zOw _ g n cp l x H.out.len H.out.byt).mono ?_
  rintro e w2 ⟨rfl,rfl⟩
  rw[hP.out]
  go_wp2_with (at_builtin;refine Kit.zAr rfl (.tmp 19) (.tmp 21) 23 rfl rfl rfl hr1 ?_)
  refine(zPy _ g n cp l k H.out.len hkn H.out.ncp H.out.cpm HBY.out).mono ?_
  rintro e w3 ⟨rfl,hby3,hg3⟩
  have HB3:=zH hby3
  have HG3:=zH hg3
  clear hby3 hg3
  go_wp2
  go_ret
  have hne:some b≠some g:=fun e=>H.out.ne (by injection e with e;exact e.symm)
  have hs3:=HG3.out.size
  have hs2:(w1.setCell ⟨b,1,none⟩ (.slice a1 (ps.length+1) c1)).heap.size=w1.heap.size:=by simp[World.setCell]
  refine .inr ⟨HX.out,rfl,?_,HBEL.out.trans (zCi HG3.out hDg (by have:=H.out.BB;have:=H.out.gB;omega))⟩
  refine{byt:= ?_,len:= ?_,ncp:=H.out.ncp,cpm:=H.out.cpm,gB:=H.out.gB,bB:=H.out.bB,ne:=H.out.ne,BB:= ?_,bytes:= ?_,places:= ?_,free:= ?_}
  ·rw[zOq l x HX.out,HK.out];exact HB3.out
  ·rw[zH2 HX.out];exact H.out.len
  ·have:=H.out.BB;omega
  ·exact cell_grown HG3.out HG.out hne
  ·rw[List.length_append,List.map_append,HK.out]
   exact⟨a1,c1,zIx (zNd HO.out b 1 _ H.out.bB) HG3.out H.out.gB,cell_grown HG3.out HG1.out hne⟩
  ·rw[zF7 HG3.out (by rw[hs2];show b<_;omega) hne];exact HFG.out
 ·have hp:zDp l x= -1:=by unfold zDp;rw[if_neg hx]
  have hP:=zH hp
  have HX:=zH hx
  clear h hlen hp hx
  go_enter Tryz.func150,Tryz.ntmps150
  go_wp2_with fail
  refine(zOw _ g n cp l x H.out.len H.out.byt).mono ?_
  rintro e w1 ⟨rfl,rfl⟩
  rw[hP.out]
  go_wp2
  go_ret
  exact .inl ⟨HX.out,rfl,rfl⟩
end Front
namespace Front
open Go.RowKit
open Kit (zAe)
variable {w w':World} {B n c r:Nat} {e:TypeId} {xs:List Value} {u x y:Value}
theorem zLb (h:Kit.Own w B e none n c xs):c=0:=by
 rcases h.2 with⟨h2,_⟩|⟨g,cap,cur,hv,_⟩
 ·injection h2
 ·injection hv with ha;cases ha
def AdF (a:Option Addr) (n c:Nat):Prop:=(a=none/\n=0/\c=0)\/(n<=c/\c<=9223372036854775807/\∃b off,a=some ⟨b,off,none⟩)
theorem AdF.zIz {a:Option Addr} (h:Kit.Own w B e a n c xs):AdF a n c:=by
 obtain⟨_,h2⟩:=h
 rcases h2 with⟨h2,h3⟩|⟨g,cap,cur,hv,hbg,hg,hnc,hcm,_⟩
 ·injection h2 with h2 h4 h5
  exact .inl ⟨h2,h4,h5⟩
 ·injection hv with ha _ hc
  subst ha hc
  exact .inr ⟨hnc,by unfold maxLen at hcm;omega,g,0,rfl⟩
structure Two (w:World) (r:Nat):Prop where
 c0:w.cell? ⟨r,0,none⟩=some (.slice none 0 0)
 c1:w.cell? ⟨r,1,none⟩=some (.slice none 0 0)
 f0:w.frozen? ⟨r,0,none⟩=false
 f1:w.frozen? ⟨r,1,none⟩=false
 lt:r<w.heap.size
theorem Two.below (h:Two w r) (hb:Below B w w') (hr:r<B):Two w' r:=
 ⟨by rw[hb.cell (p:=⟨r,0,none⟩) hr];exact h.c0,by rw[hb.cell (p:=⟨r,1,none⟩) hr];exact h.c1,by rw[hb.frozen (p:=⟨r,0,none⟩) hr];exact h.f0,by rw[hb.frozen (p:=⟨r,1,none⟩) hr];exact h.f1,by have:=h.lt;have:=hb.size;omega⟩
theorem Two.new (w:World):Two (w.alloc (.cells #[.slice none 0 0,.slice none 0 0] 152)) w.heap.size:=
 ⟨by simp,by simp,by simp,by simp,by simp⟩
theorem Below.set2 {D:Nat} (h:Below D w w') (hr:D<=r) (hw:D<=w.heap.size) (u v:Value):Below D w ((w'.setCell ⟨r,0,none⟩ u).setCell ⟨r,1,none⟩ v):=
 h.trans ((zCi (zBv w' r 0 u) hr (by have:=h.size;omega)).trans (zCi (zBv _ r 1 v) hr (by have:=h.size;simp[World.setCell];omega)))
theorem qAh (w:World) (r:Nat) (x y:Value) (h0:w.cell? ⟨r,0,none⟩=some x) (h1:w.cell? ⟨r,1,none⟩=some y):(loadVar 152 ⟨r,0,none⟩).run Tryz.prog w= .ok (.agg #[x,y]) w:=by
 simp[loadVar,go_sem,h0,h1]
theorem zGx (tmps:Array Value) (w:World) (r:Nat) (e x y:Value) (h4:tmps.getD 4 undef= .pointer (some ⟨r,0,none⟩)) (h5:tmps.getD 5 undef=e) (h0:w.cell? ⟨r,0,none⟩=some x) (h1:w.cell? ⟨r,1,none⟩=some y):
  (results Tryz.f77 tmps).run Tryz.prog w= .ok (.tuple #[.agg #[x,y],e]) w:=by
 rw[results_cell_tmp rfl,h4,h5]
 simp[asAddr,qAh w r x y h0 h1,Result.andThen]
theorem zCy (h:w.cell? ⟨r,0,none⟩=some u):((w.setCell ⟨r,0,none⟩ x).setCell ⟨r,1,none⟩ y).cell? ⟨r,0,none⟩=some x:=by
 rw[World.cell?_setCell_other _ _ _ _ (by intro e;injection e with _ e2 _;omega)];exact World.cell?_setCell_same _ _ _ h
theorem zCx (h:w.cell? ⟨r,1,none⟩=some u):((w.setCell ⟨r,0,none⟩ x).setCell ⟨r,1,none⟩ y).cell? ⟨r,1,none⟩=some y:=
 World.cell?_setCell_same _ _ _ (u:=u) (by rw[World.cell?_setCell_other _ _ _ _ (by intro e;injection e with _ e2 _;omega)];exact h)
def zR6 (a s:T) (w:World) (e:Ending) (w':World):Prop:=
 Below w.heap.size w w'/\
 ((right a=false/\e= .returned (.tuple #[.agg #[.slice none 0 0,.slice none 0 0],.int .i64 1]))\/
  (right a=true/\all a s=false/\e= .returned (.tuple #[.agg #[.slice none 0 0,.slice none 0 0],.int .i64 5]))\/
  (right a=true/\all a s=true/\∃g cp p c,e= .returned (.tuple #[.agg #[.slice (some ⟨g,0,none⟩) a.length cp,.slice p s.length c],.int .i64 0])/\
   Byt w' g (zEn a s)/\Kit.Src w' p ((zB4 a s).map ival)/\(p=none->c=0)/\AdF p s.length c))
theorem zHo (a s:ByteArray) (ha:a.size<=1000) (hs:s.size<=1000) (w:World):
  Calls Tryz.prog 77 #[.string a,.string s] w (zR6 a.data.toList s.data.toList w):=by
 obtain⟨wA,hA⟩:∃wA,wA=w.alloc (.cells #[.slice none 0 0,.slice none 0 0] 152):=⟨_,rfl⟩
 have hcv:=run_bytes_of_string (P:=Tryz.prog) wA 9 109 5 a Tryz.underlying9 Tryz.underlying109 Tryz.underlying5
 have hge:=grownCap_ge wA a.size 0 5
 have hle:=grownCap_le_maxLen wA a.size 0 5 (by unfold maxLen;omega)
 have hby:=Byt.new wA a (grownCap wA a.size 0 5) 5
 obtain⟨cp,hcp⟩:=zB (grownCap wA a.size 0 5)
 rw[hcp]at hcv hge hle hby
 obtain⟨wB,hB⟩:=zB (wA.drew.alloc (.cells (bytesRow a cp) 5 ((bytesRow a cp).size,(bytesRow a cp).size+1)))
 rw[hB]at hcv hby
 have hsz:wA.heap.size=w.heap.size+1:=by rw[hA];simp
 have hsz2:wB.heap.size=w.heap.size+2:=by
  rw[<-hB]
  show(wA.heap.push _).size=_
  rw[Array.size_push];omega
 rw[hsz]at hcv hby
 have htA:Two wA w.heap.size:=by rw[hA];exact Two.new w
 have hbA:Below w.heap.size w wA:=by rw[hA];exact(Below.refl _ _).alloc (Nat.le_refl _) _
 have hbB:Below (w.heap.size+1) wA wB:=by rw[<-hB];exact(Below.refl _ _).drew.alloc (by show _<=wA.heap.size;omega) _
 obtain⟨wC,hC⟩:∃wC,wC=wB.alloc (.cells #[.slice (some ⟨w.heap.size+1,0,none⟩) a.size cp,.slice none 0 0] 152):=⟨_,rfl⟩
 have hszC:wC.heap.size=w.heap.size+3:=by
  rw[hC]
  show(wB.heap.push _).size=_
  rw[Array.size_push];omega
 have hbC:Below (w.heap.size+1) wA wC:=by rw[hC];exact hbB.alloc (by omega) _
 have htC:=htA.below hbC (by omega)
 have hbyC:Byt wC (w.heap.size+1) a.data.toList:=by rw[hC];exact hby.grown (World.grownBy_alloc _ _ none) (by simp)
 have hC0:wC.cell? ⟨w.heap.size+2,0,none⟩=some (.slice (some ⟨w.heap.size+1,0,none⟩) a.size cp):=by rw[hC,<-hsz2];simp
 have hC1:wC.cell? ⟨w.heap.size+2,1,none⟩=some (.slice none 0 0):=by rw[hC,<-hsz2];simp
 have hfC:wC.frozen? ⟨w.heap.size+2,1,none⟩=false:=by rw[hC,<-hsz2];simp
 have HB:=zH hbC
 have HA:=zH hbA
 have HBC:=zH hbyC
 have HTC:=zH htC
 have H0:=zH hC0
 have H1:=zH hC1
 have HF:=zH hfC
 have hcv2:=hcv
 clear hbC hbA hbyC htC hC0 hC1 hfC hby hbB htA hB hcp
 subst hA
 go_enter Tryz.func77,Tryz.ntmps77
 go_wp2_with fail
 rw[<-hC]
 refine(zGf a (by unfold maxLen;omega) _).mono ?_
 rintro e w1 ⟨rfl,b1⟩
 clear hcv hcv2
 have hT1:=HTC.out.below b1 (by omega)
 have hB1:Below (w.heap.size+1) (w.alloc (.cells #[.slice none 0 0,.slice none 0 0] 152)) w1:=HB.out.trans (b1.mono (by omega))
 by_cases hr:right a.data.toList=true
 ·rw[hr]
  have htel:Tel w1 (w.heap.size+2) (w.heap.size+1) a.size cp (w.heap.size+3) a.data.toList []:={
   byt:=HBC.out.below b1 (by omega),len:=zAl a,ncp:=hge,cpm:=hle,gB:=by omega,bB:=by omega,ne:=by omega
   BB:=by have:=b1.size;omega
   bytes:=by rw[b1.cell (p:=⟨w.heap.size+2,0,none⟩) (by show w.heap.size+2<_;omega)];exact H0.out
   places:=⟨none,0,Kit.Own.start _ _ _,by rw[b1.cell (p:=⟨w.heap.size+2,1,none⟩) (by show w.heap.size+2<_;omega)];exact H1.out⟩
   free:=by rw[b1.frozen (p:=⟨w.heap.size+2,1,none⟩) (by show w.heap.size+2<_;omega)];exact HF.out}
  have HT:=zH htel
  have HR:=zH hr
  clear htel hr
  go_wp2
  go_loopw [18] (fun i wr=>∃k:Nat,k<=s.size/\i= .int .i64 k/\RowKit.Hid (Tel wr (w.heap.size+2) (w.heap.size+1) a.size cp (w.heap.size+3) (zEn a.data.toList (s.data.toList.take k)) (zB4 a.data.toList (s.data.toList.take k)))/\RowKit.Hid (all a.data.toList (s.data.toList.take k)=true)/\Below (w.heap.size+1) (w.alloc (.cells #[.slice none 0 0,.slice none 0 0] 152)) wr) (fun i _=>s.size-(intOf i).toNat)
  case atStart=>exact⟨0,by omega,rfl,HT,zH rfl,hB1⟩
  case round=>
   obtain⟨k,hk,rfl,ht,hal,hb⟩:=hrel
   have hT2:=(Two.new w).below hb (by omega)
   by_cases hlt:k<s.size
   ·have hlen:(zB4 a.data.toList (s.data.toList.take k)).length=k:=by rw[zDi,List.length_take,zAl];omega
    go_wp2_with fail
    refine(zY8 _ _ _ _ _ _ (w.heap.size+1) _ _ s[k] ht.out (by omega) (by omega) (by omega)).mono ?_
    rintro e w2 (⟨hno,rfl,rfl⟩|⟨hin,rfl,ht2,hb2⟩)
    ·obtain⟨e0,e1,e2,e3,e4⟩:=hT2
     go_wp2
     have hno2:all a.data.toList s.data.toList=false:=by
      rw[Bool.eq_false_iff]
      intro h
      rw[zUa]at h
      exact hno ((zLi _ _ hal.out _).2 (h _ (by rw[<-zLh s k hlt];exact List.getElem_mem _)))
     refine bodyPost_ret (zGx _ _ w.heap.size _ _ _ rfl rfl (zCy e0) (zCx e1)) rfl ⟨HA.out.trans (Below.set2 (hb.mono (by omega)) (Nat.le_refl _) (by omega) _ _),.inr (.inl ⟨HR.out,hno2,rfl⟩)⟩
    ·go_wp2
     go_roundw
     case rel=>
      refine⟨k+1,by omega,by go_num,?_,?_,hb.trans hb2⟩
      ·rw[List.take_succ_eq_append_getElem (by rw[zAl];exact hlt),zX3,zW5]
       exact zH ht2
      ·rw[List.take_succ_eq_append_getElem (by rw[zAl];exact hlt),qBo,hal.out,Bool.true_and,decide_eq_true_eq]
       exact zH ((zLi _ _ hal.out _).1 hin)
     case measure=>simp[intOf];omega
   ·obtain rfl:k=s.size:=by omega
    obtain⟨e0,e1,e2,e3,e4⟩:=hT2
    have hfull:s.data.toList.take s.size=s.data.toList:=List.take_of_length_le (by rw[zAl];omega)
    rw[hfull]at ht hal
    obtain⟨pa,pc,hown,hc1⟩:=ht.out.places
    have hc0:=ht.out.bytes
    have hpl:(zB4 a.data.toList s.data.toList).length=s.size:=by rw[zDi,zAl]
    rw[hpl]at hc1 hown
    have HOWN:=zH hown
    clear hown hpl hfull
    go_wp2
    try simp only[Exit.inBlock,Exit.then]
    have hgr:wr.grownBy ((wr.setCell ⟨w.heap.size,0,none⟩ (.slice (some ⟨w.heap.size+1,0,none⟩) a.size cp)).setCell ⟨w.heap.size,1,none⟩ (.slice pa s.size pc)) (some w.heap.size):=zCd (zBv _ _ _ _) (zBv _ _ _ _)
    refine bodyPost_ret (zGx _ _ w.heap.size _ _ _ rfl rfl (zCy e0) (zCx e1)) rfl ⟨HA.out.trans (Below.set2 (hb.mono (by omega)) (Nat.le_refl _) (by omega) _ _),.inr (.inr ⟨HR.out,hal.out,w.heap.size+1,cp,pa,pc,?_,?_,?_,fun h=>by subst h;exact zLb HOWN.out,by rw[zAl];exact AdF.zIz HOWN.out⟩)⟩
    ·rw[zAl,zAl];rfl
    ·exact ht.out.byt.grown hgr (by intro e;injection e with e;omega)
    ·exact(zNd (zNd HOWN.out w.heap.size 0 _ (by omega)) w.heap.size 1 _ (by omega)).src
 ·rw[Bool.not_eq_true]at hr
  rw[hr]
  obtain⟨e0,e1,e2,e3,e4⟩:=hT1
  go_wp2
  try simp only[Exit.inBlock,Exit.then]
  refine bodyPost_ret (zGx _ _ w.heap.size _ _ _ rfl rfl (zCy e0) (zCx e1)) rfl ⟨HA.out.trans (Below.set2 (hB1.mono (by omega)) (Nat.le_refl _) (by omega) _ _),.inl ⟨hr,rfl⟩⟩
end Front
end Go.Proofs.YtppnakkaljbmbaaGreatDoor
