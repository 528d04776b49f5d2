/- Steps of a proof; no condition beyond what each states. -/
import Derived.Test.YtppnakkaljbmbaaGreatDoorZU27
set_option linter.unusedVariables false
set_option linter.unusedSimpArgs false
set_option maxRecDepth 100000
set_option maxHeartbeats 8000000
namespace Go.Proofs.YtppnakkaljbmbaaGreatDoor
namespace Sq
open Go.RowKit Front Us Tn St Zr Bt Ch Hf Ix
def Stg (p:ByteArray) (K g c most:Nat):Nat->World->Prop
 |0,w=>∃q m d b,WK w K ⟨zAj p,zA8 p,some ⟨g,0,none⟩,(sy p).length+1,c,most,q,m,d,b⟩/\Kit.Src w (some ⟨g,0,none⟩) ((sym p).map ival)
 |1,w=>∃q m d b,WK w K ⟨zAj p,zA8 p,some ⟨g,0,none⟩,(sy p).length+1,c,most,q,m,d,b⟩/\Kit.Src w (some ⟨g,0,none⟩) ((sym p).map ival)
 |2,w=>∃b,WK w K ⟨zAj p,zA8 p,some ⟨g,0,none⟩,(sy p).length+1,c,most,some ⟨g,0,none⟩,(sy p).length,c,b⟩/\Kit.Src w (some ⟨g,0,none⟩) ((sym p).map ival)
 |3,w=>∃q d b,WK w K ⟨zAj p,zA8 p,some ⟨g,0,none⟩,(sy p).length+1,c,most,q,p.size,d,b⟩/\Kit.Src w q ((plc p).map ival)
 |4,w=>∃q m d,WK w K ⟨zAj p,zA8 p,some ⟨g,0,none⟩,(sy p).length+1,c,most,q,m,d,lastT p⟩
 |_,w=>∃q m d,WK w K ⟨zAj p,zA8 p,some ⟨g,0,none⟩,(sy p).length+1,c,most,q,m,d,p⟩
theorem Stg.below {p:ByteArray} {K g c most:Nat}:∀{i:Nat} {w w':World},Stg p K g c most i w->Below w.heap.size w w'->Stg p K g c most i w'
 |0,_,_,⟨q,m,d,b,h,hs⟩,hb=>⟨q,m,d,b,h.below hb,hs.below hb⟩
 |1,_,_,⟨q,m,d,b,h,hs⟩,hb=>⟨q,m,d,b,h.below hb,hs.below hb⟩
 |2,_,_,⟨b,h,hs⟩,hb=>⟨b,h.below hb,hs.below hb⟩
 |3,_,_,⟨q,d,b,h,hs⟩,hb=>⟨q,d,b,h.below hb,hs.below hb⟩
 |4,_,_,⟨q,m,d,h⟩,hb=>⟨q,m,d,h.below hb⟩
 |_+5,_,_,⟨q,m,d,h⟩,hb=>⟨q,m,d,h.below hb⟩
def zM1 (f K:Nat) (R R':World->Prop):Prop:=∀w,R w->Calls Tryz.prog f #[.pointer (some ⟨K,0,none⟩)] w fun e w'=>e= .returned (.int .i64 0)/\R' w'/\Upd w w' K
theorem qGw {p:ByteArray} {K g c most:Nat}:∀{i:Nat} {w:World},Stg p K g c most i w->K<w.heap.size
 |0,_,⟨q,m,d,b,h,hs⟩=>h.lt
 |1,_,⟨q,m,d,b,h,hs⟩=>h.lt
 |2,_,⟨b,h,hs⟩=>h.lt
 |3,_,⟨q,d,b,h,hs⟩=>h.lt
 |4,_,⟨q,m,d,h⟩=>h.lt
 |_+5,_,⟨q,m,d,h⟩=>h.lt
section
variable {p:ByteArray} {K g c most:Nat}
theorem step0 (h0:0<p.size):zM1 338 K (Stg p K g c most 0) (Stg p K g c most 1):=fun w ⟨q,m,d,b,h,hs⟩=>
 (zSp K _ w h (zMz p h0) (by show(zAj p).size<=1000;have:=zFk p;omega) (zVu p)).mono fun e w' ⟨he,hb⟩=>⟨he,⟨q,m,d,b,h.below hb,hs.below hb⟩,Upd.of_below hb (Nat.le_of_lt h.lt)⟩
theorem step1 (h0:0<p.size) (h1:p.size<=1000) (hg:g≠K) (hc:(sy p).length+1<=c):zM1 340 K (Stg p K g c most 1) (Stg p K g c most 2):=fun w ⟨q,m,d,b,h,hs⟩=>
 (zX5 K g (sy p).length c (zAj p) (zA8 p) most q m d b (sy p) w h (by have:=zL1 p;omega) hc rfl (by have:=zFk p;omega) (zPm p h0) hs).mono fun e w' ⟨he,hk,hu⟩=>⟨he,⟨b,hk,hu.src hs (fun q hq=>by injection hq with hq;subst hq;exact hg)⟩,hu⟩
theorem step2 (h0:0<p.size) (h1:p.size<=1000) (hg:g≠K) (hc:(sy p).length+1<=c) (hcm:c<=9223372036854775807) (hm:p.size<=most) (hm2:most<=100000):zM1 341 K (Stg p K g c most 2) (Stg p K g c most 3):=fun w ⟨b,h,hs⟩=>by
 have hsl:=zL1 p
 have hs2:Kit.Src w (some ⟨g,0,none⟩) ((sy p).map ival):=by
  have h5:=hs.take (sy p).length
  rw[<-List.map_take]at h5
  unfold sym at h5
  rw[List.take_left']at h5
  ·exact h5
  ·rfl
 have hbl:∀q,(some ⟨g,0,none⟩:Option Addr)=some q->q.block<w.heap.size:=fun q hq=>by
  injection hq with hq
  subst hq
  obtain⟨b',off,hb,hcc⟩:=hs 0 (ival ((sym p)[0]'(by rw[zCv];omega))) (by rw[List.getElem?_map,List.getElem?_eq_getElem (by rw[zCv];omega)];rfl)
  injection hb with hb
  rw[hb]
  exact block_lt_of_cell hcc
 refine(zUt K _ (sy p) (plc p) w h rfl (by show(sy p).length<=2000;omega) hs2 hbl (.inr ⟨by show(sy p).length<=c;omega,hcm,g,0,rfl⟩) (fun y hy=>by have h5:=zPm p h0 y hy;have h6:=zFk p;omega) (zP0 p) (by show(plc p).length<=most;rw[zDb];exact hm) hm2).mono fun e w' ⟨a,d,he,hk,ho,hu⟩=> ?_
 rw[zDb]at hk
 exact⟨he,⟨a,d,b,hk,ho.src⟩,hu⟩
theorem qG1 (h0:0<p.size) (h1:p.size<=1000):zM1 342 K (Stg p K g c most 3) (Stg p K g c most 4):=fun w ⟨q,d,b,h,hs⟩=>
 (qAj K _ (plc p) (lastT p) w h h0 (zDb p) (by show p.size<=2000;omega) (by show(zAj p).size<=1000;have:=zFk p;omega) hs (zK9 p h0).1 (zK9 p h0).2).mono fun e w' ⟨he,hk,hu⟩=>⟨he,⟨q,_,d,hk⟩,hu⟩
theorem qG0 (h0:0<p.size) (h1:p.size<=1000):zM1 344 K (Stg p K g c most 4) (Stg p K g c most 5):=fun w ⟨q,m,d,h⟩=>
 (zX2 K _ p w h (by show(lastT p).size<=100000;rw[zCp];omega) (by show zA8 p<(lastT p).size;rw[zCp];exact zDq p h0) (zTa p h0)).mono fun e w' ⟨he,hk,hu⟩=>⟨he,⟨q,m,d,hk⟩,hu⟩
end
abbrev fn (n:Nat):Value:= .func (.func n) #[] #[]
def zIp:Array Value:= #[fn 338,fn 339,fn 340,fn 339,fn 341,fn 339,fn 342,fn 343,fn 344,fn 343]
abbrev TS_:TypeId:=467
theorem qCl (p:ByteArray) (K S g c most:Nat) (w:World) (h0:0<p.size) (h1:p.size<=1000) (hg:g≠K) (hc:(sy p).length+1<=c) (hcm:c<=9223372036854775807) (hm:p.size<=most) (hm2:most<=100000) (h:Stg p K g c most 0 w) (hS:w.heap[S]? =some (.cells zIp TS_ (0,0))) (hSK:S≠K):
  Calls Tryz.prog 337 #[.pointer (some ⟨K,0,none⟩),.slice (some ⟨S,0,none⟩) 5 5] w fun e w'=>e= .returned .nilIface/\Stg p K g c most 5 w'/\Upd w w' K:=by
 have C0:=zH (step0 (K:=K) (g:=g) (c:=c) (most:=most) h0)
 have C1:=zH (step1 (most:=most) h0 h1 hg hc)
 have C2:=zH (step2 h0 h1 hg hc hcm hm hm2)
 have C3:=zH (qG1 (K:=K) (g:=g) (c:=c) (most:=most) h0 h1)
 have C4:=zH (qG0 (K:=K) (g:=g) (c:=c) (most:=most) h0 h1)
 have H:=zH h
 have HS:=zH hS
 have HU:=zH (Upd.refl w K)
 clear h0 h1 hg hc hcm hm hm2 h hS
 go_enter Tryz.func337,Tryz.ntmps337
 go_wp2
 go_loopw [10] (fun iv wr=>∃i:Nat,i<=5/\iv= .int .i64 i/\RowKit.Hid (Stg p K g c most i wr)/\RowKit.Hid (wr.heap[S]? =some (.cells zIp TS_ (0,0)))/\RowKit.Hid (Upd w wr K)) (fun iv _=>5-(intOf iv).toNat)
 case atStart=>exact⟨0,by omega,rfl,H,HS,HU⟩
 case round=>
  clear H HS HU
  obtain⟨i,hi,rfl,hst,hs,hu⟩:=hrel
  by_cases h5:i=5
  ·subst h5
   rw[show((5:Nat):Int)=(5:Int)from rfl]
   go_wp2
   go_ret
   exact⟨rfl,hst.out,hu.out⟩
  ·obtain⟨P,hP⟩:=zB wr.heap.size
   have hKP:K<P:=by rw[<-hP];exact qGw hst.out
   have hSP:S<P:=by rw[<-hP];exact zAd hs.out
   have hcell:∀(j:Nat) (v:Value),zIp[j]? =some v->wr.cell? ⟨S,j,none⟩=some v:=fun j v hv=>by simp[World.cell?,hs.out,hv]
   obtain rfl|rfl|rfl|rfl|rfl:i=0\/i=1\/i=2\/i=3\/i=4:=by omega
   ·rw[show((0:Nat):Int)=(0:Int)from rfl]
    have x0:=hcell 0 (fn 338) rfl
    have x1:=hcell 1 (fn 339) rfl
    obtain⟨W,hW⟩:=zB (wr.alloc (.cells #[.func (.func 338) #[] #[],.func (.func 339) #[] #[]] TS_))
    have hbW:Below wr.heap.size wr W:=by rw[<-hW];exact(Below.refl _ _).alloc (Nat.le_refl _) _
    have HX:=zH (show W.drew.heap[P]? =some (.cells #[.func (.func 338) #[] #[],.func (.func 339) #[] #[]] TS_ (0,0))by show W.heap[P]? =_;rw[<-hW,<-hP];exact zAh wr _)
    have ST:=zH (show Stg p K g c most 0 W.drew from(hst.out.below hbW).below (show Below W.heap.size W W.drew from(Below.refl _ _).drew))
    have HSW:=zH ((hbW.block S (by omega)).trans hs.out)
    have HUW:=zH ((hu.out.trans (Upd.of_below hbW (by omega))).trans (Upd.drew W K))
    have hPW:P<W.heap.size:=by rw[<-hW,zA];omega
    clear hcell hst hs hu hbW
    go_wp2
    clear hW hP x0 x1
    refine zS [6] (fun W9=>W9.heap[P]? =some (.cells #[.func (.func 338) #[] #[],.func (.func 339) #[] #[]] TS_ (0,0))) [0,1,0,4,0,24,34,127] 8<|zu 0 15 (zP P 1)<|zy 1 16 (fn 339) (fun w hS=>zl 465 15 (Kit.zAg (zAf hS).2.1 (by kernel_rfl) (by kernel_rfl))) HX.out<|zp [2,3,4]<|zk 17 (zP P 0)<|zt 18 (fn 338) ((fun w hS=>zl 464 17 (Kit.zAg (zAf hS).1 (by kernel_rfl) (by kernel_rfl))) _ (HX.out))<|zk 19 (zP K 0)<|zn<|zc 5 20 338 #[.pointer (some ⟨K,0,none⟩)] (.int .i64 0) (C0.out _ ST.out)<| ?_
    refine fun w5 h5=>⟨.inr (.inr ((h5.2.old P hPW (by omega)).trans HX.out)),?_⟩
    refine zd 6 21 339 #[.int .i64 0] (.int .i64 0) (zR1 _)<|zp [7]<|zk 7 (.int .i64 0)<|zn<|zE<| ?_
    simp only[zP,zI,Act.put,List.setIfInBounds_toArray,List.set_cons_zero,List.set_cons_succ]
    have HST:=zH h5.1
    have HSS:=zH ((h5.2.old S (by show S<W.heap.size;omega) hSK).trans HSW.out)
    have HUU:=zH (HUW.out.trans h5.2)
    clear h5 ST HSW HUW HX
    go_wp2
    go_roundw
    case rel=>exact⟨1,by omega,by go_num,HST,HSS,HUU⟩
    case measure=>simp[intOf]
   ·rw[show((1:Nat):Int)=(1:Int)from rfl]
    have x0:=hcell 2 (fn 340) rfl
    have x1:=hcell 3 (fn 339) rfl
    obtain⟨W,hW⟩:=zB (wr.alloc (.cells #[.func (.func 340) #[] #[],.func (.func 339) #[] #[]] TS_))
    have hbW:Below wr.heap.size wr W:=by rw[<-hW];exact(Below.refl _ _).alloc (Nat.le_refl _) _
    have HX:=zH (show W.drew.heap[P]? =some (.cells #[.func (.func 340) #[] #[],.func (.func 339) #[] #[]] TS_ (0,0))by show W.heap[P]? =_;rw[<-hW,<-hP];exact zAh wr _)
    have ST:=zH (show Stg p K g c most 1 W.drew from(hst.out.below hbW).below (show Below W.heap.size W W.drew from(Below.refl _ _).drew))
    have HSW:=zH ((hbW.block S (by omega)).trans hs.out)
    have HUW:=zH ((hu.out.trans (Upd.of_below hbW (by omega))).trans (Upd.drew W K))
    have hPW:P<W.heap.size:=by rw[<-hW,zA];omega
    clear hcell hst hs hu hbW
    go_wp2
    clear hW hP x0 x1
    refine zS [6] (fun W9=>W9.heap[P]? =some (.cells #[.func (.func 340) #[] #[],.func (.func 339) #[] #[]] TS_ (0,0))) [0,1,0,4,0,24,34,127] 8<|zu 0 15 (zP P 1)<|zy 1 16 (fn 339) (fun w hS=>zl 465 15 (Kit.zAg (zAf hS).2.1 (by kernel_rfl) (by kernel_rfl))) HX.out<|zp [2,3,4]<|zk 17 (zP P 0)<|zt 18 (fn 340) ((fun w hS=>zl 464 17 (Kit.zAg (zAf hS).1 (by kernel_rfl) (by kernel_rfl))) _ (HX.out))<|zk 19 (zP K 0)<|zn<|zc 5 20 340 #[.pointer (some ⟨K,0,none⟩)] (.int .i64 0) (C1.out _ ST.out)<| ?_
    refine fun w5 h5=>⟨.inr (.inr ((h5.2.old P hPW (by omega)).trans HX.out)),?_⟩
    refine zd 6 21 339 #[.int .i64 0] (.int .i64 0) (zR1 _)<|zp [7]<|zk 7 (.int .i64 0)<|zn<|zE<| ?_
    simp only[zP,zI,Act.put,List.setIfInBounds_toArray,List.set_cons_zero,List.set_cons_succ]
    have HST:=zH h5.1
    have HSS:=zH ((h5.2.old S (by show S<W.heap.size;omega) hSK).trans HSW.out)
    have HUU:=zH (HUW.out.trans h5.2)
    clear h5 ST HSW HUW HX
    go_wp2
    go_roundw
    case rel=>exact⟨2,by omega,by go_num,HST,HSS,HUU⟩
    case measure=>simp[intOf]
   ·rw[show((2:Nat):Int)=(2:Int)from rfl]
    have x0:=hcell 4 (fn 341) rfl
    have x1:=hcell 5 (fn 339) rfl
    obtain⟨W,hW⟩:=zB (wr.alloc (.cells #[.func (.func 341) #[] #[],.func (.func 339) #[] #[]] TS_))
    have hbW:Below wr.heap.size wr W:=by rw[<-hW];exact(Below.refl _ _).alloc (Nat.le_refl _) _
    have HX:=zH (show W.drew.heap[P]? =some (.cells #[.func (.func 341) #[] #[],.func (.func 339) #[] #[]] TS_ (0,0))by show W.heap[P]? =_;rw[<-hW,<-hP];exact zAh wr _)
    have ST:=zH (show Stg p K g c most 2 W.drew from(hst.out.below hbW).below (show Below W.heap.size W W.drew from(Below.refl _ _).drew))
    have HSW:=zH ((hbW.block S (by omega)).trans hs.out)
    have HUW:=zH ((hu.out.trans (Upd.of_below hbW (by omega))).trans (Upd.drew W K))
    have hPW:P<W.heap.size:=by rw[<-hW,zA];omega
    clear hcell hst hs hu hbW
    go_wp2
    clear hW hP x0 x1
    refine zS [6] (fun W9=>W9.heap[P]? =some (.cells #[.func (.func 341) #[] #[],.func (.func 339) #[] #[]] TS_ (0,0))) [0,1,0,4,0,24,34,127] 8<|zu 0 15 (zP P 1)<|zy 1 16 (fn 339) (fun w hS=>zl 465 15 (Kit.zAg (zAf hS).2.1 (by kernel_rfl) (by kernel_rfl))) HX.out<|zp [2,3,4]<|zk 17 (zP P 0)<|zt 18 (fn 341) ((fun w hS=>zl 464 17 (Kit.zAg (zAf hS).1 (by kernel_rfl) (by kernel_rfl))) _ (HX.out))<|zk 19 (zP K 0)<|zn<|zc 5 20 341 #[.pointer (some ⟨K,0,none⟩)] (.int .i64 0) (C2.out _ ST.out)<| ?_
    refine fun w5 h5=>⟨.inr (.inr ((h5.2.old P hPW (by omega)).trans HX.out)),?_⟩
    refine zd 6 21 339 #[.int .i64 0] (.int .i64 0) (zR1 _)<|zp [7]<|zk 7 (.int .i64 0)<|zn<|zE<| ?_
    simp only[zP,zI,Act.put,List.setIfInBounds_toArray,List.set_cons_zero,List.set_cons_succ]
    have HST:=zH h5.1
    have HSS:=zH ((h5.2.old S (by show S<W.heap.size;omega) hSK).trans HSW.out)
    have HUU:=zH (HUW.out.trans h5.2)
    clear h5 ST HSW HUW HX
    go_wp2
    go_roundw
    case rel=>exact⟨3,by omega,by go_num,HST,HSS,HUU⟩
    case measure=>simp[intOf]
   ·rw[show((3:Nat):Int)=(3:Int)from rfl]
    have x0:=hcell 6 (fn 342) rfl
    have x1:=hcell 7 (fn 343) rfl
    obtain⟨W,hW⟩:=zB (wr.alloc (.cells #[.func (.func 342) #[] #[],.func (.func 343) #[] #[]] TS_))
    have hbW:Below wr.heap.size wr W:=by rw[<-hW];exact(Below.refl _ _).alloc (Nat.le_refl _) _
    have HX:=zH (show W.drew.heap[P]? =some (.cells #[.func (.func 342) #[] #[],.func (.func 343) #[] #[]] TS_ (0,0))by show W.heap[P]? =_;rw[<-hW,<-hP];exact zAh wr _)
    have ST:=zH (show Stg p K g c most 3 W.drew from(hst.out.below hbW).below (show Below W.heap.size W W.drew from(Below.refl _ _).drew))
    have HSW:=zH ((hbW.block S (by omega)).trans hs.out)
    have HUW:=zH ((hu.out.trans (Upd.of_below hbW (by omega))).trans (Upd.drew W K))
    have hPW:P<W.heap.size:=by rw[<-hW,zA];omega
    clear hcell hst hs hu hbW
    go_wp2
    clear hW hP x0 x1
    refine zS [6] (fun W9=>W9.heap[P]? =some (.cells #[.func (.func 342) #[] #[],.func (.func 343) #[] #[]] TS_ (0,0))) [0,1,0,4,0,24,34,127] 8<|zu 0 15 (zP P 1)<|zy 1 16 (fn 343) (fun w hS=>zl 465 15 (Kit.zAg (zAf hS).2.1 (by kernel_rfl) (by kernel_rfl))) HX.out<|zp [2,3,4]<|zk 17 (zP P 0)<|zt 18 (fn 342) ((fun w hS=>zl 464 17 (Kit.zAg (zAf hS).1 (by kernel_rfl) (by kernel_rfl))) _ (HX.out))<|zk 19 (zP K 0)<|zn<|zc 5 20 342 #[.pointer (some ⟨K,0,none⟩)] (.int .i64 0) (C3.out _ ST.out)<| ?_
    refine fun w5 h5=>⟨.inr (.inr ((h5.2.old P hPW (by omega)).trans HX.out)),?_⟩
    refine zd 6 21 343 #[.int .i64 0] (.int .i64 0) (zRg _)<|zp [7]<|zk 7 (.int .i64 0)<|zn<|zE<| ?_
    simp only[zP,zI,Act.put,List.setIfInBounds_toArray,List.set_cons_zero,List.set_cons_succ]
    have HST:=zH h5.1
    have HSS:=zH ((h5.2.old S (by show S<W.heap.size;omega) hSK).trans HSW.out)
    have HUU:=zH (HUW.out.trans h5.2)
    clear h5 ST HSW HUW HX
    go_wp2
    go_roundw
    case rel=>exact⟨4,by omega,by go_num,HST,HSS,HUU⟩
    case measure=>simp[intOf]
   ·rw[show((4:Nat):Int)=(4:Int)from rfl]
    have x0:=hcell 8 (fn 344) rfl
    have x1:=hcell 9 (fn 343) rfl
    obtain⟨W,hW⟩:=zB (wr.alloc (.cells #[.func (.func 344) #[] #[],.func (.func 343) #[] #[]] TS_))
    have hbW:Below wr.heap.size wr W:=by rw[<-hW];exact(Below.refl _ _).alloc (Nat.le_refl _) _
    have HX:=zH (show W.drew.heap[P]? =some (.cells #[.func (.func 344) #[] #[],.func (.func 343) #[] #[]] TS_ (0,0))by show W.heap[P]? =_;rw[<-hW,<-hP];exact zAh wr _)
    have ST:=zH (show Stg p K g c most 4 W.drew from(hst.out.below hbW).below (show Below W.heap.size W W.drew from(Below.refl _ _).drew))
    have HSW:=zH ((hbW.block S (by omega)).trans hs.out)
    have HUW:=zH ((hu.out.trans (Upd.of_below hbW (by omega))).trans (Upd.drew W K))
    have hPW:P<W.heap.size:=by rw[<-hW,zA];omega
    clear hcell hst hs hu hbW
    go_wp2
    clear hW hP x0 x1
    refine zS [6] (fun W9=>W9.heap[P]? =some (.cells #[.func (.func 344) #[] #[],.func (.func 343) #[] #[]] TS_ (0,0))) [0,1,0,4,0,24,34,127] 8<|zu 0 15 (zP P 1)<|zy 1 16 (fn 343) (fun w hS=>zl 465 15 (Kit.zAg (zAf hS).2.1 (by kernel_rfl) (by kernel_rfl))) HX.out<|zp [2,3,4]<|zk 17 (zP P 0)<|zt 18 (fn 344) ((fun w hS=>zl 464 17 (Kit.zAg (zAf hS).1 (by kernel_rfl) (by kernel_rfl))) _ (HX.out))<|zk 19 (zP K 0)<|zn<|zc 5 20 344 #[.pointer (some ⟨K,0,none⟩)] (.int .i64 0) (C4.out _ ST.out)<| ?_
    refine fun w5 h5=>⟨.inr (.inr ((h5.2.old P hPW (by omega)).trans HX.out)),?_⟩
    refine zd 6 21 343 #[.int .i64 0] (.int .i64 0) (zRg _)<|zp [7]<|zk 7 (.int .i64 0)<|zn<|zE<| ?_
    simp only[zP,zI,Act.put,List.setIfInBounds_toArray,List.set_cons_zero,List.set_cons_succ]
    have HST:=zH h5.1
    have HSS:=zH ((h5.2.old S (by show S<W.heap.size;omega) hSK).trans HSW.out)
    have HUU:=zH (HUW.out.trans h5.2)
    clear h5 ST HSW HUW HX
    go_wp2
    go_roundw
    case rel=>exact⟨5,by omega,by go_num,HST,HSS,HUU⟩
    case measure=>simp[intOf]
end Sq
namespace Sq
open Go.RowKit Front Us Tn St Zr Bt Ch Hf Ix
theorem qGk (v:Value) (w:World):Calls Tryz.prog 345 #[.nilIface,v] w fun e w'=>e= .returned (.bool false)/\w'=w:=by
 go_enter Tryz.func345,Tryz.ntmps345
 go_wp2
 go_ret
 exact⟨rfl,rfl⟩
theorem zSl (p:ByteArray) (g c most:Nat) (w:World) (h0:0<p.size) (h1:p.size<=1000) (hc:(sy p).length+1<=c) (hcm:c<=9223372036854775807) (hm:p.size<=most) (hm2:most<=100000) (hs:Kit.Src w (some ⟨g,0,none⟩) ((sym p).map ival)):
  Calls Tryz.prog 319 #[qv (zAj p) (zA8 p) (some ⟨g,0,none⟩) ((sy p).length+1) c,.int .i64 (most:Int)] w fun e w'=>e= .returned (.tuple #[.string p,.int .i64 0])/\Below w.heap.size w w':=by
 have hgl:g<w.heap.size:=by
  obtain⟨b',off,hb,hcc⟩:=hs 0 (ival ((sym p)[0]'(by rw[zCv];omega))) (by rw[List.getElem?_map,List.getElem?_eq_getElem (by rw[zCv];omega)];rfl)
  injection hb with hb
  injection hb with h2 _ _
  subst h2
  exact block_lt_of_cell hcc
 obtain⟨B,hB⟩:=zB w.heap.size
 obtain⟨A,hA⟩:=zB (zAj p)
 obtain⟨O,hO⟩:=zB (zA8 p)
 obtain⟨n,hn⟩:=zB ((sy p).length+1)
 obtain⟨W1,hW1⟩:=zB (w.alloc (.cells #[.string A,.int .i64 (O:Int),.slice (some ⟨g,0,none⟩) n c] TQ))
 obtain⟨W2,hW2⟩:=zB (W1.alloc (.cells #[.string A,.int .i64 (O:Int),.slice (some ⟨g,0,none⟩) n c,.int .i64 (most:Int),.slice none 0 0,.string ⟨#[]⟩] TK))
 obtain⟨W3,hW3⟩:=zB (W2.alloc (.cells #[.int .i64 0] 461))
 obtain⟨W4,hW4⟩:=zB (W3.alloc (.cells zIp TS_))
 have z1:W1.heap.size=B+1:=by rw[<-hW1,zA,hB]
 have z2:W2.heap.size=B+2:=by rw[<-hW2,zA,z1]
 have z3:W3.heap.size=B+3:=by rw[<-hW3,zA,z2]
 have hb:Below B w W4:=by
  rw[<-hW4,<-hW3,<-hW2,<-hW1,<-hB]
  exact((((Below.refl _ _).alloc (Nat.le_refl _) _).alloc (by rw[zA];omega) _).alloc (by rw[zA,zA];omega) _).alloc (by rw[zA,zA,zA];omega) _
 have k2:W2.heap[B+1]? =some (.cells #[.string A,.int .i64 (O:Int),.slice (some ⟨g,0,none⟩) n c,.int .i64 (most:Int),.slice none 0 0,.string ⟨#[]⟩] TK (0,0)):=by rw[<-hW2,<-z1];exact zAh W1 _
 have k4:W4.heap[B+1]? =some (.cells #[.string A,.int .i64 (O:Int),.slice (some ⟨g,0,none⟩) n c,.int .i64 (most:Int),.slice none 0 0,.string ⟨#[]⟩] TK (0,0)):=by
  rw[<-hW4,Lib.alloc_old W3 _ _ (by omega),<-hW3,Lib.alloc_old W2 _ _ (by omega)];exact k2
 have s4:W4.heap[B+3]? =some (.cells zIp TS_ (0,0)):=by rw[<-hW4,<-z3];exact zAh W3 _
 have HWY:=zH (qCl p (B+1) (B+3) g c most W4 h0 h1 (by omega) hc hcm hm hm2 ⟨none,0,0,⟨#[]⟩,by rw[hA,hO,hn];exact k4,hs.below (by rw[hB];exact hb)⟩ s4 (by omega))
 have HB:=zH hb
 have HBB:=zH hB
 have H12:=zH hW1
 have H22:=zH hW2
 have H32:=zH hW3
 have H42:=zH hW4
 rw[hA,hO,hn]
 unfold qv
 have HO:=zH (And.intro hA (And.intro hO hn))
 clear hs hb hA hO hn hW1 hW2 hW3 hW4 z1 z2 z3 k2 k4 s4 h0 h1 hc hcm hm hm2 hgl
 go_enter Tryz.func319,Tryz.ntmps319
 go_wp2_with fail
 rw[show B+1+1+1=B+3 from rfl]
 rw[show(((w.alloc (.cells #[.string A,.int .i64 (O:Int),.slice (some ⟨g,0,none⟩) n c] TQ)).alloc (.cells #[.string A,.int .i64 (O:Int),.slice (some ⟨g,0,none⟩) n c,.int .i64 (most:Int),.slice none 0 0,.string ⟨#[]⟩] TK)).alloc (.cells #[.int .i64 0] 461)).alloc (.cells #[.func (.func 338) #[] #[],.func (.func 339) #[] #[],.func (.func 340) #[] #[],.func (.func 339) #[] #[],.func (.func 341) #[] #[],.func (.func 339) #[] #[],.func (.func 342) #[] #[],.func (.func 343) #[] #[],.func (.func 344) #[] #[],.func (.func 343) #[] #[]] TS_)=W4 from by rw[H12.out,H22.out,H32.out];exact H42.out]
 (with_reducible refine HWY.out.mono ?_)
 rintro e w5 ⟨rfl,hst,hu⟩
 obtain⟨q,m,d,hk⟩:=hst
 have HB5:=zH (HB.out.trans (hu.below.mono (by omega)))
 have HK:=zH hk
 have x5:=hk.c5
 simp only at x5
 have HAS:=zH (fun(v:Value) (w:World)=>qGk v w)
 clear hk hu HWY HB H12 H22 H32 H42 HO
 go_wp2_with fail
 (with_reducible refine(HAS.out _ _).mono ?_)
 rintro e w6 ⟨rfl,rfl⟩
 go_wp2
 go_ret2
 exact⟨rfl,by rw[HBB.out];exact HB5.out⟩
end Sq
namespace Sl
open Go.RowKit Front Bt Zr Ix
def kOf (b:Bool) (x:Nat):Nat:=if x=b.toNat then 0 else 1
theorem qE8 (b:Bool) (x:Nat):zC8 b x=List.replicate (kOf b x) true++[false]:=by unfold zC8 kOf;split<;>rfl
theorem qFs (b:Bool) (x:Nat):kOf b x<=1:=by unfold kOf;split<;>omega
theorem zVa (R:Nat) (b:Bool) (x:Nat) (hx:x<=1) (w:World) (h:Pl w R b):
  Calls Tryz.prog 94 #[.pointer (some ⟨R,0,none⟩),.int .i64 (kOf b x:Int)] w fun e w'=>e= .returned (.int .i64 (x:Int))/\Pl w' R (x==1)/\Ch R w w':=by
 by_cases hxb:x=b.toNat
 ·have e1:kOf b x=0:=by unfold kOf;rw[if_pos hxb]
  have e2:(x==1)=b:=by rw[hxb];cases b<;>rfl
  rw[e1,e2,hxb]
  exact zMq R b w h
 ·have e1:kOf b x=1:=by unfold kOf;rw[if_neg hxb]
  have hx2:x=(!b).toNat:=by cases b<;>simp at hxb⊢<;>omega
  have e2:(x==1)= !b:=by rw[hx2];cases b<;>rfl
  rw[e1,e2,hx2]
  exact zMp R b w h
theorem qGi {s:ByteArray} {q k:Nat} (h:At s q (List.replicate k true++[false])) (u:Nat) (hu:u<=k):q+u+1<=8*s.size/\val (take s (q+u) 1)=(decide (u<k)).toNat:=by
 have h1:=h.1
 simp at h1
 refine⟨by omega,?_⟩
 have h2:=h.2
 have h3:=zKy s q (List.replicate k true++[false]).length u (by simp;omega)
 rw[h2]at h3
 have h4:take s (q+u) 1=[zBm s (q+u)]:=by simp[take]
 rw[h4]
 have h5:zBm s (q+u)=decide (u<k):=by
  rcases Nat.lt_or_ge u k with h6|h6
  ·rw[List.getElem?_append_left (by simpa using h6),List.getElem?_replicate,if_pos h6]at h3
   rw[decide_eq_true h6];exact(Option.some.inj h3).symm
  ·obtain rfl:u=k:=by omega
   rw[List.getElem?_append_right (by simp)]at h3
   simp at h3
   rw[decide_eq_false (by omega)];exact h3
 rw[h5]
 simp[val]
theorem zOa (s:ByteArray) (at_:Nat) (l:List Nat) (n:Nat) (w:World) (hn:l.length=n) (hn2:n<=10000) (hs:s.size<=100000000) (hl:∀x∈l,x<=1) (ha:At s at_ (zAz false l)):
  Calls Tryz.prog 34 #[.string s,.int .i64 (at_:Int),.int .i64 (n:Int),.int .i64 2] w fun e w'=>∃a' c',e= .returned (.tuple #[.slice a' n c',.int .i64 ((at_+(zAz false l).length:Nat):Int),.int .i64 0])/\Kit.Own w' w.heap.size 3 a' n c' (l.map ival)/\Below w.heap.size w w':=by
 obtain⟨B,hB⟩:=zB w.heap.size
 have HF:=zH (zC9 w)
 have HO:=zH (zTq w)
 rw[hB]at HO
 have HL:=zH hl
 have HN:=zH hn
 obtain⟨J,hJ⟩:=zB (at_+(zAz false l).length)
 rw[hJ]
 have HA:=zH ha
 have HJ:=zH hJ
 have ham:at_<=8*s.size:=by have:=ha.1;omega
 have h1:decide ((at_:Int)<0)=false:=decide_eq_false (by omega)
 have h2:decide ((n:Int)<0)=false:=decide_eq_false (by omega)
 have h3:decide ((1048576:Int)<(n:Int))=false:=decide_eq_false (by omega)
 clear ha hl hn hJ
 rw[hB]
 go_enter Tryz.func34,Tryz.ntmps34
 go_wp2_with fail
 (with_reducible refine HF.out.mono ?_)
 rintro e w2 ⟨rfl,rfl⟩
 go_wp2_with fail
 (with_reducible refine HO.out.mono ?_)
 rintro e w3 ⟨rfl,hp3,hb3⟩
 have P3:=zH hp3
 have HB3:=zH hb3
 have hz3:B<w3.heap.size:=zAd hp3
 clear hp3 hb3 HF HO h1 h2 h3
 go_wp2
 go_loopw [1,8,33] (fun av v i wr=>∃(j q:Nat) (b:Bool) (p:Option Addr) (c:Nat),j<=n/\i= .int .i64 j/\av= .int .i64 q/\v= .slice p j c/\RowKit.Hid (At s q (zAz b (l.drop j)))/\RowKit.Hid (q+(zAz b (l.drop j)).length=J)/\RowKit.Hid (Pl wr B b)/\RowKit.Hid (Kit.Own wr (B+1) 3 p j c ((l.take j).map ival))/\RowKit.Hid (Below B w2 wr)/\B<wr.heap.size) (fun _ _ i _=>n-(intOf i).toNat)
 case atStart=>exact⟨0,at_,false,none,0,by omega,rfl,rfl,rfl,by rw[List.drop_zero];exact HA,by rw[List.drop_zero];exact HJ,P3,zH (Kit.Own.start _ _ _),HB3,hz3⟩
 case round=>
  clear HA HJ P3 HB3 hz3
  obtain⟨j,q,b,p,c,hj,rfl,rfl,rfl,hA,hJ,hp,hown,hb,hz⟩:=hrel
  by_cases hlt:j<n
  ·have hjl:j<l.length:=by rw[HN.out];exact hlt
   obtain⟨x,hx⟩:=zB (l[j])
   have hx1:x<=1:=by rw[<-hx];exact HL.out _ (List.getElem_mem hjl)
   have hd:=zOd l j b hjl
   rw[hx]at hd
   have hA1:=hA.out
   rw[hd]at hA1
   obtain⟨a1,a2⟩:=At.app.1 hA1
   have hJ1:=hJ.out
   rw[hd,List.length_append]at hJ1
   have htk:l.take (j+1)=l.take j++[x]:=by rw[List.take_succ_eq_append_getElem hjl,hx]
   have HTK:=zH htk
   have A2:=zH a2
   have J2:=zH (show q+(zC8 b x).length+(zAz (x==1) (l.drop (j+1))).length=J by omega)
   clear hd hA1 hJ1 htk hx hA hJ a2
   rw[qE8]at a1 A2 J2
   have hk1:=qFs b x
   have HFR:=zH (zVa B b x hx1)
   obtain⟨k,hk⟩:=zB (kOf b x)
   rw[hk]at a1 A2 J2 hk1 HFR
   rw[List.length_append,List.length_replicate,show[false].length=1 from rfl]at A2 J2
   have HBT:=zH (qGi a1)
   clear a1 hk
   go_wp2
   go_loopw [1,8,12] (fun av v8 ov w=>∃(u:Nat),v8= .slice p j c/\u<=k/\av= .int .i64 ((q:Int)+(u:Int))/\ov= .int .i64 u/\w=wr) (fun _ _ ov _=>k-(intOf ov).toNat)
   case atStart=>exact⟨0,rfl,by omega,by simp,rfl,rfl⟩
   case round=>
    obtain⟨u,rfl,hu,rfl,rfl,rfl⟩:=hrel
    obtain⟨g1,g2⟩:=HBT.out u hu
    have HG:=zH (zB7 s (q+u) 1 (by omega) g1 (by omega) wr)
    rw[g2,show((1:Nat):Int)=1 from rfl,Int.natCast_add]at HG
    clear g2
    by_cases huk:u<k
    ·rw[decide_eq_true huk,show((true.toNat:Nat):Int)=1 from rfl]at HG
     obtain⟨x0,x1,fz,x6⟩:=zQs hp.out
     have hne:((u:Int)+1==2)=false:=by simp;omega
     clear fz x0 x1
     go_wp2_with fail
     (with_reducible refine HG.out.mono ?_)
     rintro e w4 ⟨rfl,rfl⟩
     go_wp2
     go_roundw
     case rel=>exact⟨u+1,rfl,by omega,by push_cast;rw[Int.add_assoc],by go_num,trivial⟩
     case measure=>simp only[intOf];omega
    ·obtain rfl:u=k:=by omega
     rw[decide_eq_false (by omega),show((false.toNat:Nat):Int)=0 from rfl]at HG
     go_wp2_with fail
     (with_reducible refine HG.out.mono ?_)
     rintro e w4 ⟨rfl,rfl⟩
     clear HG
     have HFW:=zH (HFR.out wr hp.out)
     go_wp2_with fail
     (with_reducible refine HFW.out.mono ?_)
     rintro e w5 ⟨rfl,hp5,hc5⟩
     have hz5:=hc5.below.size
     have P5:=zH hp5
     have B5:=zH (hb.out.trans (hc5.below.mono (Nat.le_refl _)))
     have ho5:Kit.Own w5 (B+1) 3 p j c ((l.take j).map ival):=zJs hown.out (fun k h1 _=>hc5.old k (by omega))
     obtain⟨p3,c3,w6,hr3,ho3,hg3⟩:=Kit.Own.app (ty:=23) (w:=w5.alloc (.cells #[.int .i64 (x:Int)] 3)) zNn (ho5.alloc _) (some ⟨w5.heap.size,0,none⟩) 1 1 [ival x] (Kit.zAs w5 _ 3) rfl (fun h=>by cases h) (zDr [x]) (by unfold maxLen;omega) (by omega) (by simp;omega)
     rw[show(l.take j).map ival++[ival x]=(l.take (j+1)).map ival by rw[HTK.out,List.map_append];rfl]at ho3
     have hbk:=ho5.block
     have hb6:Below (B+1) w5 w6:=((Below.refl _ _).alloc (by omega) _).trans ((Below.refl _ _).grown hg3 (by simp;omega) (fun k hk=>hbk k hk))
     have P6:=zH (show Pl w6 B (x==1)from(hb6.block B (by omega)).trans hp5)
     have B6:=zH (B5.out.trans (hb6.mono (by omega)))
     have hz6:=hb6.size
     have O6:=zH ho3
     clear hp5 hc5 ho5 ho3 hg3 hbk hb6 P5 B5
     go_wp2_with (at_builtin;refine Kit.zAr rfl (.tmp 56) (.tmp 62) 23 rfl rfl rfl hr3 ?_)
     go_roundw
     case rel=>exact⟨j+1,q+(u+1),(x==1),p3,c3,by omega,by go_num,by push_cast;rw[Int.add_assoc],rfl,A2,J2,P6,O6,B6,by omega⟩
     case measure=>simp only[intOf];omega
  ·obtain rfl:j=n:=by omega
   have hJe:J=q:=by
    have:=hJ.out
    rw[List.drop_of_length_le (by rw[HN.out];omega),zAz]at this
    simpa using this.symm
   have htk:l.take j=l:=List.take_of_length_le (by rw[HN.out];omega)
   rw[htk]at hown
   have HJE:=zH hJe
   clear hJe htk
   go_wp2
   try simp only[Exit.inBlock,Exit.then]
   refine bodyPost_ret (v:= .tuple #[.slice p j c,.int .i64 (q:Int),.int .i64 0]) (by simp[results,Tryz.f34,go_sem]) rfl ⟨p,c,by rw[HJE.out],hown.out.base (by omega),hb.out⟩
end Sl
end Go.Proofs.YtppnakkaljbmbaaGreatDoor
