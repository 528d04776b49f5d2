/- Steps of a proof; no condition beyond what each states. -/
import Derived.Test.YtppnakkaljbmbaaGreatDoorZU26
set_option linter.unusedVariables false
set_option linter.unusedSimpArgs false
set_option maxRecDepth 100000
set_option maxHeartbeats 8000000
namespace Go.Proofs.YtppnakkaljbmbaaGreatDoor
namespace Sq
open Go.RowKit Front Us Tn St Zr Bt Ch Hf Ix
variable {w w':World} {K:Nat} {a b:ByteArray} {P:Program} {ρ:Operand->Value} {o:Oper} {t u:TypeId} {x y:Operand} {r:Bool}
abbrev TK:TypeId:=460
structure Wk where
 A:ByteArray
 O:Nat
 p:Option Addr
 n:Nat
 c:Nat
 most:Nat
 q:Option Addr
 m:Nat
 d:Nat
 by_:ByteArray
def WK (w:World) (K:Nat) (x:Wk):Prop:=w.heap[K]? =some (.cells #[.string x.A,.int .i64 (x.O:Int),.slice x.p x.n x.c,.int .i64 (x.most:Int),.slice x.q x.m x.d,.string x.by_] TK (0,0))
theorem WK.lt {x:Wk} (h:WK w K x):K<w.heap.size:=zAd h
theorem WK.keep {x:Wk} (h:WK w K x) (e:w'.heap[K]? =w.heap[K]?):WK w' K x:=e.trans h
theorem WK.below {x:Wk} (h:WK w K x) (hb:Below w.heap.size w w'):WK w' K x:=h.keep (hb.block K h.lt)
theorem WK.c0 {x:Wk} (h:WK w K x):w.cell? ⟨K,0,none⟩=some (.string x.A):=by unfold WK at h;simp[World.cell?,h]
theorem WK.c1 {x:Wk} (h:WK w K x):w.cell? ⟨K,1,none⟩=some (.int .i64 (x.O:Int)):=by unfold WK at h;simp[World.cell?,h]
theorem WK.c2 {x:Wk} (h:WK w K x):w.cell? ⟨K,2,none⟩=some (.slice x.p x.n x.c):=by unfold WK at h;simp[World.cell?,h]
theorem WK.c3 {x:Wk} (h:WK w K x):w.cell? ⟨K,3,none⟩=some (.int .i64 (x.most:Int)):=by unfold WK at h;simp[World.cell?,h]
theorem WK.c4 {x:Wk} (h:WK w K x):w.cell? ⟨K,4,none⟩=some (.slice x.q x.m x.d):=by unfold WK at h;simp[World.cell?,h]
theorem WK.c5 {x:Wk} (h:WK w K x):w.cell? ⟨K,5,none⟩=some (.string x.by_):=by unfold WK at h;simp[World.cell?,h]
theorem WK.fr {x:Wk} (h:WK w K x) (i:Nat):w.frozen? ⟨K,i,none⟩=false:=by unfold WK at h;simp[World.frozen?,h]
theorem WK.l0 {x:Wk} (h:WK w K x):(loadVar 9 ⟨K,0,none⟩).run Tryz.prog w= .ok (.string x.A) w:=Kit.zAg h.c0 (by kernel_rfl) (by kernel_rfl)
theorem WK.l1 {x:Wk} (h:WK w K x):(loadVar 3 ⟨K,1,none⟩).run Tryz.prog w= .ok (.int .i64 (x.O:Int)) w:=Kit.zAg h.c1 (by kernel_rfl) (by kernel_rfl)
theorem WK.l2 {x:Wk} (h:WK w K x):(loadVar 23 ⟨K,2,none⟩).run Tryz.prog w= .ok (.slice x.p x.n x.c) w:=Kit.zAg h.c2 (by kernel_rfl) (by kernel_rfl)
theorem WK.l3 {x:Wk} (h:WK w K x):(loadVar 3 ⟨K,3,none⟩).run Tryz.prog w= .ok (.int .i64 (x.most:Int)) w:=Kit.zAg h.c3 (by kernel_rfl) (by kernel_rfl)
theorem WK.l4 {x:Wk} (h:WK w K x):(loadVar 23 ⟨K,4,none⟩).run Tryz.prog w= .ok (.slice x.q x.m x.d) w:=Kit.zAg h.c4 (by kernel_rfl) (by kernel_rfl)
theorem WK.l5 {x:Wk} (h:WK w K x):(loadVar 9 ⟨K,5,none⟩).run Tryz.prog w= .ok (.string x.by_) w:=Kit.zAg h.c5 (by kernel_rfl) (by kernel_rfl)
theorem WK.lq {x:Wk} (h:WK w K x):(loadVar TQ ⟨K,0,none⟩).run Tryz.prog w= .ok (qv x.A x.O x.p x.n x.c) w:=by
 have h0:=h.c0
 have h1:=h.c1
 have h2:=h.c2
 unfold qv
 simp[loadVar,go_sem,h0,h1,h2]
theorem WK.qE7 {x:Wk} (h:WK w K x) (q:Option Addr) (m d:Nat):(storeVar 23 ⟨K,4,none⟩ (.slice q m d)).run Tryz.prog w= .ok () (w.setCell ⟨K,4,none⟩ (.slice q m d))/\WK (w.setCell ⟨K,4,none⟩ (.slice q m d)) K {x with q:=q,m:=m,d:=d}:=by
 refine⟨Kit.zDs h.c4 (h.fr 4) (by kernel_rfl) rfl rfl,?_⟩
 unfold WK at*
 simp[World.setCell,Array.getElem?_modify,h]
theorem WK.qE6 {x:Wk} (h:WK w K x) (b:ByteArray):(storeVar 9 ⟨K,5,none⟩ (.string b)).run Tryz.prog w= .ok () (w.setCell ⟨K,5,none⟩ (.string b))/\WK (w.setCell ⟨K,5,none⟩ (.string b)) K {x with by_:=b}:=by
 refine⟨Kit.zDs h.c5 (h.fr 5) (by kernel_rfl) rfl rfl,?_⟩
 unfold WK at*
 simp[World.setCell,Array.getElem?_modify,h]
structure Upd (w w':World) (K:Nat):Prop where
 old:∀k,k<w.heap.size->k≠K->w'.heap[k]? =w.heap[k]?
 below:Below K w w'
theorem Upd.refl (w:World) (K:Nat):Upd w w K:=⟨fun _ _ _=>rfl,Below.refl _ _⟩
theorem Upd.trans {w'':World} (h:Upd w w' K) (g:Upd w' w'' K):Upd w w'' K:=⟨fun k h1 h2=>(g.old k (Nat.lt_of_lt_of_le h1 h.below.size) h2).trans (h.old k h1 h2),h.below.trans g.below⟩
theorem Upd.of_below (hb:Below w.heap.size w w') (hK:K<=w.heap.size):Upd w w' K:=⟨fun k h1 _=>hb.block k h1,hb.mono hK⟩
theorem Upd.set {i:Nat} {v:Value}:Upd w (w.setCell ⟨K,i,none⟩ v) K:=⟨fun k _ h2=>zAa h2,(Below.refl _ _).setCell (p:=⟨K,i,none⟩) (Nat.le_refl _) v⟩
theorem Upd.size (h:Upd w w' K):w.heap.size<=w'.heap.size:=h.below.size
theorem Upd.src {a:Option Addr} {xs:List Value} (h:Upd w w' K) (hs:Kit.Src w a xs) (hK:∀p,a=some p->p.block≠K):Kit.Src w' a xs:=by
 intro j u hu
 obtain⟨b,off,ha,hc⟩:=hs j u hu
 refine⟨b,off,ha,?_⟩
 rw[<-hc]
 simp only[World.cell?,h.old b (block_lt_of_cell hc) (hK _ ha)]
theorem zZi (ho:o.op= .binOp .eql t x y u) (hx:ρ x= .string a) (hy:ρ y= .string b) (h:(a.toList==b.toList)=r) (w:World):(execOp ρ o).run P w= .ok (.value (.bool r)) w:=by
 subst h
 unfold execOp
 simp[ho,hx,hy,go_sem]
theorem zZf (ho:o.op= .binOp .neq t x y u) (hx:ρ x= .string a) (hy:ρ y= .string b) (h:(!(a.toList==b.toList))=r) (w:World):(execOp ρ o).run P w= .ok (.value (.bool r)) w:=by
 subst h
 unfold execOp
 simp[ho,hx,hy,go_sem]
theorem zSp (K:Nat) (x:Wk) (w:World) (h:WK w K x) (h0:0<x.A.size) (h1:x.A.size<=1000) (ha:zAj x.A=x.A):
  Calls Tryz.prog 338 #[.pointer (some ⟨K,0,none⟩)] w fun e w'=>e= .returned (.int .i64 0)/\Below w.heap.size w w':=by
 have HAL:=zH (fun W=>by have h:=zEc x.A (by omega) W;rw[ha]at h;exact h)
 have E1:=zH (show(x.A.toList==(⟨#[]⟩:ByteArray).toList)=false by
  rw[beq_eq_false_iff_ne,Lib.toList_data,Lib.toList_data];intro e
  have h5:x.A.data.toList.length=0:=by rw[e];rfl
  rw[Array.length_toList]at h5;have h6:x.A.size=0:=h5;omega)
 have E2:=zH (show(!(x.A.toList==x.A.toList))=false by simp)
 have H:=zH h
 obtain⟨A,hA⟩:=zB x.A
 have HD:=zH (fun(W:World) (hW:WK W K x)=>by have h:=hW.l0;rw[hA]at h;exact h)
 rw[hA]at HAL E1 E2
 clear h h0 h1 ha hA
 go_enter Tryz.func338,Tryz.ntmps338
 go_wp2
 refine zS [] (fun W9=>WK W9 K x) [0,1,2,4,8,16,32,64,192,320,576,1088,2112,64,8256,16448,32832,65600,135232,262208] 20<|zp [0,1,2,3,4,5,6]<|zk 3 (zP K 0)<|zk 4 (zP K 0)<|zk 5 (zP K 0)<|zk 6 (zP K 0)<|zt 7 (.string A) ((fun w hS=>zl 9 6 (HD.out _ hS)) _ (show WK w.drew K x from H.out))<|zt 8 (.bool false) (zZi (x:= .tmp 7) (y:= .const (.string ⟨#[]⟩)) rfl (by kernel_rfl) (by kernel_rfl) E1.out _)<|zk 9 (.bool false)<|zn<|zu 13 16 (zP K 0)<|zu 14 17 (zP K 0)<|zu 15 18 (zP K 0)<|zu 16 19 (zP K 0)<|zy 17 20 (.string A) (fun w hS=>zl 9 19 (HD.out _ hS)) (show WK w.drew K x from H.out)<|zp [7,8,9,10,11]<|zk 10 (zP K 0)<|zk 11 (zP K 0)<|zk 12 (zP K 0)<|zk 13 (zP K 0)<|zt 14 (.string A) ((fun w hS=>zl 9 13 (HD.out _ hS)) _ (show WK w.drew K x from H.out))<|zn<|zc 12 15 20 #[.string A] (.string A) (HAL.out _)<| ?_
 refine fun w5 hb=>⟨.inr (.inr ((show WK w.drew K x from H.out).below hb)),?_⟩
 refine zp [18,19]<|zt 21 (.bool false) (zZf (x:= .tmp 15) (y:= .tmp 20) rfl (by kernel_rfl) (by kernel_rfl) E2.out _)<|zk 22 (.bool false)<|zn<|zE<| ?_
 simp only[zP,zI,Act.put,List.setIfInBounds_toArray,List.set_cons_zero,List.set_cons_succ]
 go_wp2
 go_ret
 exact⟨rfl,(show Below w.heap.size w w.drew from(Below.refl _ _).drew).trans hb⟩
theorem zJk {e:TypeId} {g n c k:Nat} (ho:o.op= .slice t x none (some y) none) (hx:ρ x= .slice (some ⟨g,0,none⟩) n c) (hy:ρ y= .int .i64 (k:Int)) (hk:k<=n) (hn:n<=c) (hk0:0<c)
  (hu:P.underlying t=some (.slice e)) (hz:∀w,(sizeOf e).run P w= .ok 1 w) (w:World):(execOp ρ o).run P w= .ok (.value (.slice (some ⟨g,0,none⟩) k c)) w:=by
 have e1:P.elem t=e:=by unfold Program.elem;rw[hu]
 have e2:P.underlying t=some (.slice (P.elem t)):=by rw[e1];exact hu
 have h2:(Instr.sliceAt t (.slice (some ⟨g,0,none⟩) n c) none (some (.int .i64 (k:Int))) none).run P w= .ok (.slice (some ⟨g,0,none⟩) k c) w:=by
  rw[run_sliceAt_slice w t _ _ _ _ e2,run_slice_h w t _ n c e2 .i64 (k:Int) (by omega) (by omega),e1,hz]
  simp only[Result.andThen,sliced,Int.toNat_natCast,Nat.zero_mul,Nat.sub_zero,Option.map_some,Kit.addr_add,Nat.add_zero]
  rw[if_neg (by omega)]
 unfold execOp
 simp[ho,hx,hy,h2]
theorem zVc (K P y:Nat) (x:Wk) (w:World) (h:WK w K x) (hp:w.cell? ⟨P,0,none⟩=some (.pointer (some ⟨K,0,none⟩))) (h1:x.A.size<=1000) (hy:y<=x.A.size):
  Calls Tryz.prog 356 #[ival y,.pointer (some ⟨P,0,none⟩)] w fun e w'=>e= .returned (.bool false)/\Below w.heap.size w w':=by
 have HE:=zH (fun W=>zFr x.A x.O x.p x.n x.c (by omega) W)
 unfold qv at HE
 have x0:=h.c0
 have x1:=h.c1
 have x2:=h.c2
 obtain⟨A,hA⟩:=zB x.A
 obtain⟨k,hk⟩:=zB A.size
 rw[hA]at HE x0 h1 hy
 rw[hk]at HE h1 hy
 have j1:decide ((y:Int)<0)=false:=decide_eq_false (by omega)
 clear h hA hk
 unfold ival
 go_enter Tryz.func356,Tryz.ntmps356
 go_wp2_with fail
 (with_reducible refine(HE.out _).mono ?_)
 rintro e w2 ⟨rfl,hb⟩
 have j2:decide ((k:Int)+1<=(y:Int))=false:=decide_eq_false (by omega)
 have HB:=zH hb
 clear hb
 go_wp2
 go_ret
 exact⟨rfl,HB.out⟩
theorem zR1 (w:World):Calls Tryz.prog 339 #[.int .i64 0] w fun e w'=>e= .returned (.int .i64 0)/\w'=w:=by
 go_enter Tryz.func339,Tryz.ntmps339
 go_wp2
 go_ret
 exact⟨rfl,rfl⟩
theorem zRg (w:World):Calls Tryz.prog 343 #[.int .i64 0] w fun e w'=>e= .returned (.int .i64 0)/\w'=w:=by
 go_enter Tryz.func343,Tryz.ntmps343
 go_wp2
 go_ret
 exact⟨rfl,rfl⟩
theorem zUt (K:Nat) (x:Wk) (l r:List Nat) (w:World) (h:WK w K x) (hl:l.length=x.m) (hm:x.m<=2000) (hs:Kit.Src w x.q (l.map ival)) (hb:∀p,x.q=some p->p.block<w.heap.size) (had:Ad x.q x.m x.d) (hx:∀y∈l,y<=100000) (hr:D l=r) (hr2:r.length<=x.most) (hmost:x.most<=100000):
  Calls Tryz.prog 341 #[.pointer (some ⟨K,0,none⟩)] w fun e w'=>∃a c,e= .returned (.int .i64 0)/\WK w' K {x with q:=a,m:=r.length,d:=c}/\Kit.Own w' w.heap.size 3 a r.length c (r.map ival)/\Upd w w' K:=by
 have HD:=zH (show Calls Tryz.prog 37 #[.slice x.q x.m x.d,.int .i64 (x.most:Int)] w.drew fun e w'=>∃a' c',e= .returned (.tuple #[.slice a' r.length c',.int .i64 0])/\Kit.Own w' w.heap.size 3 a' r.length c' (r.map ival)/\Below w.heap.size w.drew w' from by
  have h:=zFi l x.most x.q x.m x.d w.drew hl (by omega) hs hb had hx (by rw[hr];exact hr2) hmost
  rw[hr]at h
  exact h)
 have H:=zH (show WK w.drew K x from h)
 have HL:=h.lt
 have HW:=zH (show Upd w w.drew K from⟨fun _ _ _=>rfl,(Below.refl _ _).drew⟩)
 clear h hl hm hs hb had hx hr hr2 hmost
 go_enter Tryz.func341,Tryz.ntmps341
 go_wp2
 refine zS [] (fun _=>True) [0,0,2,4,8,0,32,64,128,272,512,1024,1024,4095,12287,20479,65535] 17<|zu 0 4 (zP K 0)<|zp [1,2,3,4,5,6,7,8]<|zk 5 (zP K 0)<|zk 6 (zP K 0)<|zk 7 (zP K 4)<|zt 8 (.slice x.q x.m x.d) (zl 23 7 (H.out.l4))<|zk 9 (zP K 0)<|zk 10 (zP K 0)<|zk 11 (zP K 3)<|zt 12 (.int .i64 (x.most:Int)) (zl 3 11 (H.out.l3))<|zn<|zx 9 13 37 #[.slice x.q x.m x.d,.int .i64 (x.most:Int)] HD.out<| ?_
 rintro e w5 ⟨a5,c5,rfl,ho5,hb5⟩
 have K5:=H.out.below hb5
 obtain⟨s6,K6⟩:=K5.qE7 a5 r.length c5
 have S6:=zH s6
 refine⟨_,rfl,.inr (.inr trivial),?_⟩
 refine zp [10]<|zk 3 (.tuple #[.slice a5 r.length c5,.int .i64 0])<|zn<|zu 12 15 (.int .i64 0)<|zp [11,13,14]<|zk 14 (.slice a5 r.length c5)<|zk 16 (zP K 0)<|zk 17 (zP K 4)<|zn<|zw 15 none (zr 23 17 14 (S6.out)) (.inr (.inr trivial))<|zp [16]<|zk 2 (.int .i64 0)<|zn<|zE<| ?_
 simp only[zP,zI,Act.put,List.setIfInBounds_toArray,List.set_cons_zero,List.set_cons_succ]
 have U6:=zH ((HW.out.trans (Upd.of_below (show Below w.drew.heap.size w.drew w5 from hb5) (Nat.le_of_lt HL))).trans (Upd.set (i:=4) (v:= .slice a5 r.length c5)))
 have O6:=zH (zCz (r:=K) (i:=4) ho5 HL (.slice a5 r.length c5))
 have K6':=zH K6
 clear hb5 ho5 K5 K6 s6
 go_wp2
 go_ret
 exact⟨_,_,rfl,K6'.out,O6.out,U6.out⟩
theorem qAj (K:Nat) (x:Wk) (l:List Nat) (r:ByteArray) (w:World) (h:WK w K x) (h0:0<x.m) (hl:l.length=x.m) (hm:x.m<=2000) (hA:x.A.size<=1000) (hs:Kit.Src w x.q (l.map ival)) (hr:zIv x.A.data.toList (l.map fun k:Nat=>(k:Int))=r.data.toList) (hc:zC3 x.A.data.toList (l.map fun k:Nat=>(k:Int))=0):
  Calls Tryz.prog 342 #[.pointer (some ⟨K,0,none⟩)] w fun e w'=>e= .returned (.int .i64 0)/\WK w' K {x with by_:=r}/\Upd w w' K:=by
 have HD:=zH (show Calls Tryz.prog 38 #[.string x.A,.slice x.q x.m x.d] w.drew fun e w'=>e= .returned (.tuple #[.string r,.int .i64 0])/\Below w.heap.size w.drew w' from by
  have h:=zLq x.A hA x.q x.d x.m (l.map fun k:Nat=>(k:Int)) (by rw[List.length_map];exact hl) (by omega) w.drew (by rw[List.map_map];exact hs)
  refine h.mono ?_
  rintro e w' ⟨rfl,hb⟩
  rw[hr,hc]
  exact⟨rfl,hb⟩)
 have H:=zH (show WK w.drew K x from h)
 have HL:=h.lt
 have HW:=zH (show Upd w w.drew K from⟨fun _ _ _=>rfl,(Below.refl _ _).drew⟩)
 have j1:((x.m:Int)==0)=false:=by rw[beq_eq_false_iff_ne];omega
 have x4:=h.c4
 clear h hl hm hs hr hc h0
 go_enter Tryz.func342,Tryz.ntmps342
 go_wp2
 refine zS [] (fun _=>True) [0,0,2,4,8,16,0,64,128,256,544,1024,2048,2048,8191,24575,40959,131071] 18<|zu 0 10 (zP K 0)<|zp [1,2,3,4,5,6,7,8,9]<|zk 11 (zP K 0)<|zk 12 (zP K 0)<|zk 13 (zP K 0)<|zk 14 (zP K 0)<|zt 15 (.string x.A) (zl 9 14 (H.out.l0))<|zk 16 (zP K 0)<|zk 17 (zP K 0)<|zk 18 (zP K 4)<|zt 19 (.slice x.q x.m x.d) (zl 23 18 (H.out.l4))<|zn<|zc 10 20 38 #[.string x.A,.slice x.q x.m x.d] (.tuple #[.string r,.int .i64 0]) HD.out<| ?_
 refine fun w5 hb5=>⟨.inr (.inr trivial),?_⟩
 have K5:=H.out.below hb5
 obtain⟨s6,K6⟩:=K5.qE6 r
 have S6:=zH s6
 refine zp [11]<|zk 9 (.tuple #[.string r,.int .i64 0])<|zn<|zu 13 22 (.int .i64 0)<|zp [12,14,15]<|zk 21 (.string r)<|zk 23 (zP K 0)<|zk 24 (zP K 5)<|zn<|zw 16 none (zr 9 24 21 (S6.out)) (.inr (.inr trivial))<|zp [17]<|zk 2 (.int .i64 0)<|zn<|zE<| ?_
 simp only[zP,zI,Act.put,List.setIfInBounds_toArray,List.set_cons_zero,List.set_cons_succ]
 have U6:=zH ((HW.out.trans (Upd.of_below (show Below w.drew.heap.size w.drew w5 from hb5) (Nat.le_of_lt HL))).trans (Upd.set (i:=5) (v:= .string r)))
 have K6':=zH K6
 clear hb5 K5 K6 s6 x4
 go_wp2
 go_ret
 exact⟨rfl,K6'.out,U6.out⟩
theorem zX2 (K:Nat) (x:Wk) (r:ByteArray) (w:World) (h:WK w K x) (hs:x.by_.size<=100000) (hO:x.O<x.by_.size) (hr:unL x.by_ x.O=r.data.toList):
  Calls Tryz.prog 344 #[.pointer (some ⟨K,0,none⟩)] w fun e w'=>e= .returned (.int .i64 0)/\WK w' K {x with by_:=r}/\Upd w w' K:=by
 have HD:=zH (show Calls Tryz.prog 39 #[.string x.by_,.int .i64 (x.O:Int)] w.drew fun e w'=>e= .returned (.tuple #[.string r,.int .i64 0])/\Below w.heap.size w.drew w' from by
  have h:=zHm x.by_ x.O (by omega) hO w.drew
  rw[hr]at h
  exact h)
 have H:=zH (show WK w.drew K x from h)
 have HL:=h.lt
 have HW:=zH (show Upd w w.drew K from⟨fun _ _ _=>rfl,(Below.refl _ _).drew⟩)
 clear h hs hO hr
 go_enter Tryz.func344,Tryz.ntmps344
 go_wp2
 refine zS [] (fun _=>True) [0,0,2,4,8,0,32,64,128,256,528,1024,2048,2048,8191,24575,40959,131071] 18<|zu 0 4 (zP K 0)<|zp [1,2,3,4,5,6,7,8,9]<|zk 5 (zP K 0)<|zk 6 (zP K 0)<|zk 7 (zP K 5)<|zt 8 (.string x.by_) (zl 9 7 (H.out.l5))<|zk 9 (zP K 0)<|zk 10 (zP K 0)<|zk 11 (zP K 0)<|zk 12 (zP K 1)<|zt 13 (.int .i64 (x.O:Int)) (zl 3 12 (H.out.l1))<|zn<|zc 10 14 39 #[.string x.by_,.int .i64 (x.O:Int)] (.tuple #[.string r,.int .i64 0]) HD.out<| ?_
 refine fun w5 hb5=>⟨.inr (.inr trivial),?_⟩
 have K5:=H.out.below hb5
 obtain⟨s6,K6⟩:=K5.qE6 r
 have S6:=zH s6
 refine zp [11]<|zk 3 (.tuple #[.string r,.int .i64 0])<|zn<|zu 13 16 (.int .i64 0)<|zp [12,14,15]<|zk 15 (.string r)<|zk 17 (zP K 0)<|zk 18 (zP K 5)<|zn<|zw 16 none (zr 9 18 15 (S6.out)) (.inr (.inr trivial))<|zp [17]<|zk 2 (.int .i64 0)<|zn<|zE<| ?_
 simp only[zP,zI,Act.put,List.setIfInBounds_toArray,List.set_cons_zero,List.set_cons_succ]
 have U6:=zH ((HW.out.trans (Upd.of_below (show Below w.drew.heap.size w.drew w5 from hb5) (Nat.le_of_lt HL))).trans (Upd.set (i:=5) (v:= .string r)))
 have K6':=zH K6
 clear hb5 K5 K6 s6
 go_wp2
 go_ret
 exact⟨rfl,K6'.out,U6.out⟩
end Sq
namespace Sq
open Go.RowKit Front Us Tn St Zr Bt Ch Hf Ix
variable {P K g:Nat} {ρ:Operand->Value} {o:Oper} {t u:TypeId} {x y:Operand} {k:IntKind} {m n:Int} {r:Bool} {W:World} {xs:List Value}
theorem zZh {P:Program} (ho:o.op= .binOp .lss t x y u) (hx:ρ x= .int k m) (hy:ρ y= .int k n) (hr:decide (m<n)=r) (w:World):(execOp ρ o).run P w= .ok (.value (.bool r)) w:=by
 subst hr
 unfold execOp
 simp[ho,hx,hy,go_sem]
theorem zZg {P:Program} (ho:o.op= .binOp .neq t x y u) (hx:ρ x= .int k m) (hy:ρ y= .int k n) (hr:(m !=n)=r) (w:World):(execOp ρ o).run P w= .ok (.value (.bool r)) w:=by
 subst hr
 unfold execOp
 simp[ho,hx,hy,go_sem]
 try rfl
theorem Upd.drew (w:World) (K:Nat):Upd w w.drew K:=⟨fun _ _ _=>rfl,(Below.refl _ _).drew⟩
structure Se (W:World) (K P g:Nat) (x:Wk) (xs:List Value):Prop where
 wk:WK W K x
 box:W.cell? ⟨P,0,none⟩=some (.pointer (some ⟨K,0,none⟩))
 src:Kit.Src W (some ⟨g,0,none⟩) xs
theorem Se.below {W':World} {x:Wk} (h:Se W K P g x xs) (hb:Below W.heap.size W W'):Se W' K P g x xs:=
 ⟨h.wk.below hb,by rw[hb.cell (block_lt_of_cell h.box)];exact h.box,h.src.below hb⟩
theorem Se.lp {x:Wk} (h:Se W K P g x xs):(loadVar 463 ⟨P,0,none⟩).run Tryz.prog W= .ok (.pointer (some ⟨K,0,none⟩)) W:=Kit.zAg h.box (by kernel_rfl) (by kernel_rfl)
theorem Se.ls {x:Wk} {l:List Nat} (h:Se W K P g x (l.map ival)) (i:Nat) (hi:i<l.length) (v:Int) (hv:((l[i]:Nat):Int)=v):(loadVar 3 ⟨g,i,none⟩).run Tryz.prog W= .ok (.int .i64 v) W:=by
 obtain⟨b,off,hb,hc⟩:=h.src i (ival l[i]) (by rw[List.getElem?_map,List.getElem?_eq_getElem hi];rfl)
 injection hb with hb
 injection hb with h1 h2 _
 subst h1 h2
 rw[Nat.zero_add]at hc
 subst hv
 unfold ival at hc
 exact Kit.zAg hc (by kernel_rfl) (by kernel_rfl)
theorem zX5 (K g n c:Nat) (A:ByteArray) (O most:Nat) (q0:Option Addr) (m0 d0:Nat) (b0:ByteArray) (l:List Nat) (w:World) (h:WK w K ⟨A,O,some ⟨g,0,none⟩,n+1,c,most,q0,m0,d0,b0⟩) (hn:n<=2000) (hc:n+1<=c) (hl:l.length=n) (hA:A.size<=1000) (hle:∀y∈l,y<=A.size)
  (hs:Kit.Src w (some ⟨g,0,none⟩) ((l++[A.size+1]).map ival)):
  Calls Tryz.prog 340 #[.pointer (some ⟨K,0,none⟩)] w fun e w'=>e= .returned (.int .i64 0)/\WK w' K ⟨A,O,some ⟨g,0,none⟩,n+1,c,most,some ⟨g,0,none⟩,n,c,b0⟩/\Upd w w' K:=by
 obtain⟨P,hP⟩:=zB w.heap.size
 obtain⟨W,hW⟩:=zB (w.alloc (.cells #[.pointer (some ⟨K,0,none⟩)] 463))
 have hb:Below w.heap.size w W:=by rw[<-hW];exact(Below.refl _ _).alloc (Nat.le_refl _) _
 have hSe:Se W K P g ⟨A,O,some ⟨g,0,none⟩,n+1,c,most,q0,m0,d0,b0⟩ ((l++[A.size+1]).map ival):=⟨h.below hb,by rw[<-hW,<-hP];simp,hs.below hb⟩
 have hKP:K<P:=by rw[<-hP];exact h.lt
 have x2:=hSe.wk.c2
 have xp:=hSe.box
 simp only at x2
 have HU:=zH (show Upd w W K from Upd.of_below hb (Nat.le_of_lt h.lt))
 have HS:=zH (show Se W.drew K P g ⟨A,O,some ⟨g,0,none⟩,n+1,c,most,q0,m0,d0,b0⟩ ((l++[A.size+1]).map ival)from⟨hSe.wk,hSe.box,hSe.src⟩)
 have HI:=zH (show n<n+1 from Nat.lt_succ_self n)
 have HLV:=zH (fun(W':World) (h':Se W' K P g ⟨A,O,some ⟨g,0,none⟩,n+1,c,most,q0,m0,d0,b0⟩ ((l++[A.size+1]).map ival))=>h'.ls n (by simp[hl]) ((A.size:Int)+1) (by rw[List.getElem_append_right (by omega)];simp[hl]))
 have HE:=zH (fun W'=>zFr A O (some ⟨g,0,none⟩) (n+1) c (by omega) W')
 have HCT:=zH (fun(W':World) (h':Se W' K P g ⟨A,O,some ⟨g,0,none⟩,n+1,c,most,q0,m0,d0,b0⟩ ((l++[A.size+1]).map ival))=>zYc l 356 (.pointer (some ⟨P,0,none⟩)) (some ⟨g,0,none⟩) n c W' hl (by omega) (by
   have h5:=h'.src.take n
   rw[<-List.map_take,List.take_append_of_le_length (by omega),List.take_of_length_le (by omega)]at h5
   exact h5) (zHw Tryz.func356 rfl rfl) (fun y hy W'' hb''=>zVc K P y _ W'' (h'.wk.below hb'') (h'.below hb'').box hA (hle y hy)))
 have HN0:=zH (show decide ((n:Int)<0)=false from decide_eq_false (by omega))
 have HEQ:=zH (show(((A.size:Int)+1)!=((A.size:Int)+1))=false by simp)
 have HC:=zH hc
 have HC0:=zH (show 0<c by omega)
 have HN1:=zH (show n<=n+1 by omega)
 have HWW:=zH hW
 have HPP:=zH hP
 clear h hl hA hle hs hb hSe hc
 unfold qv at HE
 go_enter Tryz.func340,Tryz.ntmps340
 go_wp2
 clear hW hP x2 xp
 refine zS [27] (fun W9=>Se W9 K P g ⟨A,O,some ⟨g,0,none⟩,n+1,c,most,q0,m0,d0,b0⟩ ((l++[A.size+1]).map ival)) [0,1,2,4,12,20,36,68,4,388,516,4,2052,4100,8196,16388,33796,65540,163840,262144,786432,1310720,2359296,4456448,262144,25427968,262144,100925440,134479872] 29<|zp [0,1,2]<|zk 11 (zI n)<|zt 12 (.bool false) (zZh (k:= .i64) (x:= .tmp 11) (y:= .const (.int .i64 0)) rfl (by kernel_rfl) (by kernel_rfl) HN0.out _)<|zk 13 (.bool false)<|zn<|zu 8 19 (zI n)<|zy 3 14 (zP K 0) (fun w hS=>zl 463 1 (hS.lp)) HS.out<|zu 4 15 (zP K 0)<|zu 5 16 (zP K 0)<|zu 6 17 (zP K 2)<|zy 7 18 (.slice (some ⟨g,0,none⟩) (n+1) c) (fun w hS=>zl 23 17 (hS.wk.l2)) HS.out<|zv 9 20 (zP g n) (fun w=>Kit.zBo (t:=23) (x:=(.tmp 18)) (y:=(.tmp 19)) (g:=g) (n:=n+1) (c:=c) (k:=n) rfl (by kernel_rfl) (by kernel_rfl) HI.out Tryz.underlying23 (fun _=>Tryz.sizeOf3 _) _)<|zy 10 21 (.int .i64 ((A.size:Int)+1)) (fun w hS=>zl 3 20 (HLV.out _ hS)) HS.out<|zp [11,12,13,14]<|zt 22 (zP K 0) ((fun w hS=>zl 463 1 (hS.lp)) _ (HS.out))<|zk 23 (zP K 0)<|zk 24 (zP K 0)<|zt 25 (.agg #[.string A,.int .i64 (O:Int),.slice (some ⟨g,0,none⟩) (n+1) c]) ((fun w hS=>zl 133 24 (hS.wk.lq)) _ (HS.out))<|zn<|zc 15 26 148 #[.agg #[.string A,.int .i64 (O:Int),.slice (some ⟨g,0,none⟩) (n+1) c]] (.int .i64 ((A.size:Int)+1)) (HE.out _)<| ?_
 refine fun w5 hb5=>⟨.inr (.inr (HS.out.below hb5)),?_⟩
 refine zp [16,17,18,19,20,21,22,23,24,25,26]<|zt 27 (.bool false) (zZg (k:= .i64) (x:= .tmp 21) (y:= .tmp 26) rfl (by kernel_rfl) (by kernel_rfl) HEQ.out _)<|zk 28 (.bool false)<|zk 29 (.bool false)<|zt 30 (zP K 0) ((fun w hS=>zl 463 1 (hS.lp)) _ (HS.out.below hb5))<|zk 31 (zP K 0)<|zk 32 (zP K 0)<|zk 33 (zP K 2)<|zt 34 (.slice (some ⟨g,0,none⟩) (n+1) c) ((fun w hS=>zl 23 33 (hS.wk.l2)) _ (HS.out.below hb5))<|zk 35 (zI n)<|zt 36 (.slice (some ⟨g,0,none⟩) n c) (zJk (x:= .tmp 34) (y:= .tmp 35) rfl (by kernel_rfl) (by kernel_rfl) HN1.out HC.out HC0.out Tryz.underlying23 (fun _=>Tryz.sizeOf3 _) _)<|zk 37 (.func (.func 356) #[] #[.pointer (some ⟨P,0,none⟩)])<|zn<|zc 27 38 79 #[.slice (some ⟨g,0,none⟩) n c,.func (.func 356) #[] #[.pointer (some ⟨P,0,none⟩)]] (.bool false) (HCT.out _ (HS.out.below hb5))<| ?_
 refine fun w6 hb6=>⟨.inr (.inr ((HS.out.below hb5).below hb6)),?_⟩
 refine zp [28]<|zk 39 (.bool false)<|zn<|zE<| ?_
 simp only[zP,zI,Act.put,List.setIfInBounds_toArray,List.set_cons_zero,List.set_cons_succ]
 have S6:=(HS.out.below hb5).below hb6
 have HS6:=zH S6
 have HB6:=zH ((show Below W.drew.heap.size W.drew w5 from hb5).trans (hb6.mono hb5.size))
 obtain⟨s7,k7⟩:=(show WK w6.drew K _ from S6.wk).qE7 (some ⟨g,0,none⟩) n c
 have HS7:=zH s7
 have HK7:=zH k7
 have HD6:=zH (show Se w6.drew K P g ⟨A,O,some ⟨g,0,none⟩,n+1,c,most,q0,m0,d0,b0⟩ ((l++[A.size+1]).map ival)from⟨S6.wk,S6.box,S6.src⟩)
 have hKW:K<=W.heap.size:=by
  have h5:=HU.out.size
  rw[HPP.out]at h5
  omega
 have HU7:=zH ((((HU.out.trans (Upd.drew W K)).trans (Upd.of_below HB6.out hKW)).trans (Upd.drew w6 K)).trans (Upd.set (i:=4) (v:= .slice (some ⟨g,0,none⟩) n c)))
 clear hb5 hb6 S6 HS s7 k7
 go_wp2
 refine zS [] (fun _=>True) [0,0,2,4,8,16,0,96,255,511,767] 11<|zp [0,1,2,3,4,5,6,7,8,9]<|zt 40 (zP K 0) (zl 463 1 (HD6.out.lp))<|zt 41 (zP K 0) (zl 463 1 (HD6.out.lp))<|zk 42 (zP K 0)<|zk 43 (zP K 0)<|zk 44 (zP K 2)<|zt 45 (.slice (some ⟨g,0,none⟩) (n+1) c) (zl 23 44 (HD6.out.wk.l2))<|zk 46 (zI n)<|zt 47 (.slice (some ⟨g,0,none⟩) n c) (zJk (x:= .tmp 45) (y:= .tmp 46) rfl (by kernel_rfl) (by kernel_rfl) HN1.out HC.out HC0.out Tryz.underlying23 (fun _=>Tryz.sizeOf3 _) _)<|zk 48 (zP K 0)<|zk 49 (zP K 4)<|zn<|zw 10 none (zr 23 49 47 (HS7.out)) (.inr (.inr trivial))<|zE<| ?_
 simp only[zP,zI,Act.put,List.setIfInBounds_toArray,List.set_cons_zero,List.set_cons_succ]
 go_wp2
 go_ret
 exact⟨rfl,HK7.out,(⟨HU7.out.old,HU7.out.below⟩:Upd w _ K)⟩
end Sq
end Go.Proofs.YtppnakkaljbmbaaGreatDoor
