/- Steps of a proof; no condition beyond what each states. -/
import Derived.Deep.WholeRow
import Derived.Test.YtppnakkaljbmbaaGreatDoorZU04
set_option linter.unusedVariables false
set_option linter.unusedSimpArgs false
set_option maxRecDepth 100000
set_option maxHeartbeats 8000000
namespace Go.Proofs.YtppnakkaljbmbaaGreatDoor
namespace Bt
open Go.RowKit
variable {w w':World} {R:Nat}
theorem Wr.below {D:Nat} {a:Option Addr} {c:Nat} {l:List Bool} (h:Wr w R a c l) (hb:Below D w w') (hD:D=w.heap.size):Wr w' R a c l:=by
 subst hD
 exact⟨(hb.block R h.lt).trans h.blk,h.own.below hb (Nat.le_refl _)⟩
theorem Step.of_below (hb:Below w.heap.size w w') (hR:R<=w.heap.size):Step w w' R:=⟨fun k h1 _ _=>hb.block k h1,hb.mono hR⟩
theorem qF3 (m:List Bool) (j:Nat) (hj:j<m.length):zBm (pk m) j=m[j]:=by
 rw[zGo m j (by rw[zDu];unfold zA2;omega)]
 simp[List.getD_eq_getElem?_getD,List.getElem?_eq_getElem hj]
theorem take_one {α:Type} (m:List α) (j:Nat) (hj:j<m.length):m.take (j+1)=m.take j++[m[j]]:=by
 rw[List.take_add_one,List.getElem?_eq_getElem hj];rfl
theorem zN3 (R:Nat) (a:Option Addr) (c:Nat) (l m:List Bool) (w:World) (hw:Wr w R a c l) (hl:l.length+m.length<=1000000):
  Calls Tryz.prog 87 #[.pointer (some ⟨R,0,none⟩),zAe m] w fun e w'=>e= .returned (.tuple #[])/\∃a' c',Wr w' R a' c' (l++m)/\Step w w' R:=by
 obtain⟨n,hn⟩:=zB m.length
 obtain⟨d,hd⟩:=zB (pk m)
 have HN:=zH hn
 have HD:=zH hd
 have hR:=hw.lt
 have hsz:n<=8*d.size:=by rw[<-hd,<-hn,zDu];unfold zA2;omega
 have hsm:d.size<=1000000000:=by rw[<-hd,zDu];unfold zA2;omega
 have HRT:=zH (fun w'=>zGf m (by omega) w')
 unfold zAe at HRT⊢
 rw[hn,hd]at HRT⊢
 obtain⟨W0,hW0⟩:=zB (w.alloc (.cells #[.string d,.int .i64 (n:Int)] 51))
 obtain⟨X,hX⟩:=zB w.heap.size
 have hb0:Below w.heap.size w W0:=by rw[<-hW0];exact(Below.refl _ _).alloc (Nat.le_refl _) _
 have hz0:W0.heap.size=X+1:=by rw[<-hW0,zA,hX]
 have hBX:W0.heap[X]? =some (.cells #[.string d,.int .i64 (n:Int)] 51 (0,0)):=by
  rw[<-hW0,<-hX]
  show(w.heap.push _)[w.heap.size]? =_
  simp
 have HW0:=zH (hw.below hb0 rfl)
 have HS0:=zH (Step.of_below hb0 (Nat.le_of_lt hR))
 have hRX:R≠X:=by omega
 have hRlt:R<=W0.heap.size:=by omega
 have HBX:=zH hBX
 obtain⟨x0,x1,f0,f1⟩:=zAf hBX
 clear hn hd hw hb0 hBX
 go_enter Tryz.func87,Tryz.ntmps87
 go_wp2_with fail
 clear hW0 hX
 have hq:=zH (HRT.out W0)
 (with_reducible refine hq.out.mono ?_)
 clear hq
 rintro e w1 ⟨rfl,b1⟩
 have HW1:=zH (HW0.out.below b1 rfl)
 have HS1:=zH (HS0.out.trans (Step.of_below b1 hRlt))
 have HB1:=zH ((b1.block X (by omega)).trans HBX.out)
 have hz1:X<w1.heap.size:=by have:=b1.size;omega
 clear x0 x1 f0 f1 HW0 HS0 HBX b1
 obtain⟨x0,x1,f0,f1⟩:=zAf HB1.out
 go_wp2
 clear x0 x1 f0 f1
 go_loopw [12] (fun i wr=>∃j:Nat,j<=n/\i= .int .i64 j/\RowKit.Hid (∃a' c',Wr wr R a' c' (l++m.take j))/\RowKit.Hid (Step w1 wr R)) (fun i _=>n-(intOf i).toNat)
 case atStart=>exact⟨0,by omega,rfl,zH ⟨a,c,by rw[List.take_zero,List.append_nil];exact HW1.out⟩,zH (Step.refl _ _)⟩
 case round=>
  obtain⟨j,hj,rfl,hwr,hst⟩:=hrel
  by_cases hlt:j<n
  ·obtain⟨a',c',hw'⟩:=hwr.out
   have HWR:=zH hw'
   have hBr:wr.heap[X]? =some (.cells #[.string d,.int .i64 (n:Int)] 51 (0,0)):=(hst.out.old X hz1 (Ne.symm hRX) (fun cs f e=>by rw[HB1.out]at e;injection e with e;injection e with _ e _;exact absurd e (by decide))).trans HB1.out
   obtain⟨x0,x1,f0,f1⟩:=zAf hBr
   have HBT:=zH (zNy d j (by omega) hsm)
   have hjm:j<m.length:=by rw[HN.out];exact hlt
   have hg:zBm d j=m[j]:=by rw[<-HD.out];exact qF3 m j hjm
   have hz:(bv (zBm d j)!=0)=m[j]:=by rw[qCg,hg]
   have HTK:=zH (take_one m j hjm)
   have HLL:=zH (show(l++m.take j).length<=1000000 by rw[List.length_append,List.length_take];omega)
   clear hBr hw' hg
   go_wp2_with fail
   (with_reducible refine(HBT.out _).mono ?_)
   rintro e w2 ⟨rfl,rfl⟩
   go_wp2_with fail
   clear hz x0 x1 f0 f1
   have hq:=zH (zPu R a' c' (l++m.take j) m[j] wr HWR.out HLL.out)
   (with_reducible refine hq.out.mono ?_)
   clear hq
   rintro e w3 ⟨rfl,a2,c2,hw2,hs2⟩
   have HW3:=zH (show ∃a' c',Wr w3 R a' c' (l++m.take (j+1))from⟨a2,c2,by rw[HTK.out,<-List.append_assoc];exact hw2⟩)
   have HS3:=zH (hst.out.trans hs2)
   clear hw2 hs2
   go_wp2
   go_roundw
   case rel=>exact⟨j+1,by omega,by go_num,HW3,HS3⟩
   case measure=>simp[intOf];omega
  ·obtain⟨a',c',hw'⟩:=hwr.out
   have htk:m.take j=m:=List.take_of_length_le (by rw[HN.out];omega)
   rw[htk]at hw'
   have HFIN:=zH (show(∃a' c',Wr wr R a' c' (l++m))/\Step w wr R from⟨⟨a',c',hw'⟩,HS1.out.trans hst.out⟩)
   clear hw' htk
   go_wp2
   go_end0
   obtain⟨⟨a',c',h1⟩,h2⟩:=HFIN.out
   exact⟨rfl,a',c',h1,h2⟩
theorem and_one (v k:Nat) (hv:v<18446744073709551616):(bits .and .u64 ((v:Int)/2^k) 1==1)=v.testBit k:=by
 have e:(v:Int)/2^k=((v/2^k:Nat):Int):=by simp
 rw[e,show(1:Int)=((1:Nat):Int)from rfl,u64_and_nat _ _ (Nat.lt_of_le_of_lt (Nat.div_le_self _ _) hv) (by omega),Nat.and_one_is_mod,Nat.testBit_eq_decide_div_mod_eq]
 rw[Bool.eq_iff_iff,beq_iff_eq,decide_eq_true_eq]
 omega
theorem qFk (v n j:Nat) (hj:j<(num v n).length):(num v n)[j]=v.testBit (n-1-j):=by simp[num]
theorem zYr (R:Nat) (a:Option Addr) (c:Nat) (l:List Bool) (v n:Nat) (hv:v<18446744073709551616) (hn:n<=64) (w:World) (hw:Wr w R a c l) (hl:l.length+n<=1000000):
  Calls Tryz.prog 88 #[.pointer (some ⟨R,0,none⟩),.int .u64 (v:Int),.int .i64 (n:Int)] w fun e w'=>e= .returned (.tuple #[])/\∃a' c',Wr w' R a' c' (l++num v n)/\Step w w' R:=by
 have h1:decide ((n:Int)<0)=false:=decide_eq_false (by omega)
 have h2:decide ((64:Int)<(n:Int))=false:=decide_eq_false (by omega)
 have hi:IntKind.i64.wrap ((n:Int)-1)=(n:Int)-1:=IntWalk.i64_in _ ⟨by omega,by omega⟩
 have HW:=zH hw
 clear hw
 go_enter Tryz.func88,Tryz.ntmps88
 go_wp2
 clear h1 h2 hi
 go_loopw [6] (fun i wr=>∃j:Nat,j<=n/\i= .int .i64 ((n:Int)-1-(j:Int))/\RowKit.Hid (∃a' c',Wr wr R a' c' (l++(num v n).take j))/\RowKit.Hid (Step w wr R)) (fun i _=>(intOf i+1).toNat)
 case atStart=>exact⟨0,by omega,by simp,zH ⟨a,c,by rw[List.take_zero,List.append_nil];exact HW.out⟩,zH (Step.refl _ _)⟩
 case round=>
  obtain⟨j,hj,rfl,hwr,hst⟩:=hrel
  obtain⟨i,hi⟩:∃i:Int,(n:Int)-1-(j:Int)=i:=⟨_,rfl⟩
  rw[hi]
  by_cases hlt:j<n
  ·obtain⟨a',c',hw'⟩:=hwr.out
   have HWR:=zH hw'
   have hjm:j<(num v n).length:=by rw[zAc];exact hlt
   have HTK:=zH (take_one (num v n) j hjm)
   have HLL:=zH (show(l++(num v n).take j).length<=1000000 by rw[List.length_append,List.length_take];omega)
   have hi0:0<=i:=by omega
   have hz:(bits .and .u64 ((v:Int)/2^i.toNat) 1==1)=(num v n)[j]:=by rw[and_one v _ hv,qFk];congr 1;omega
   have hiw:IntKind.i64.wrap (i-1)=i-1:=IntWalk.i64_in _ ⟨by omega,by omega⟩
   go_wp2_with fail
   clear hz
   have hq:=zH (zPu R a' c' (l++(num v n).take j) (num v n)[j] wr HWR.out HLL.out)
   (with_reducible refine hq.out.mono ?_)
   clear hq
   rintro e w3 ⟨rfl,a2,c2,hw2,hs2⟩
   have HW3:=zH (show ∃a' c',Wr w3 R a' c' (l++(num v n).take (j+1))from⟨a2,c2,by rw[HTK.out,<-List.append_assoc];exact hw2⟩)
   have HS3:=zH (hst.out.trans hs2)
   clear hw2 hs2
   go_wp2
   go_roundw
   case rel=>exact⟨j+1,by omega,by rw[<-hi];congr 1;omega,HW3,HS3⟩
   case measure=>simp[intOf];omega
  ·obtain⟨a',c',hw'⟩:=hwr.out
   have htk:(num v n).take j=num v n:=List.take_of_length_le (by rw[zAc];omega)
   rw[htk]at hw'
   have hi0:¬0<=i:=by omega
   have HFIN:=zH hw'
   clear hw' htk
   go_wp2
   go_end0
   exact⟨rfl,⟨a',c',HFIN.out⟩,hst.out⟩
end Bt
namespace Bt
open Go.RowKit
theorem zRd (p q:Addr) (w:World):
  CallsD Tryz.prog 155 #[.pointer (some p),.pointer (some q)] .returning w fun e u' w'=>e= .returned (.tuple #[])/\u'= .returning/\w'=w:=by
 refine callsD_of_wpS Tryz.func155 rfl fun c₀ cs hu=> ?_
 apply wpS_seq
 apply wpS_region
 simp[wpOpsS,go_sem,recoverD,hu,Tryz.ntmps155,Exit.thenS]
 refine wpS_of_wp ?_
 go_wp2
 cases c₀
 simp_all [bodyPostS,results,Tryz.results155]
theorem qAk (p1 p2 p3:Addr) (l:List Bool) (hl:l.length<=1000000) (w:World)
  (H:∀W R,w.heap.size<=R->Below w.heap.size w W->Wr W R none 0 []->Calls Tryz.prog 86 #[.pointer (some ⟨R,0,none⟩),.pointer (some p1),.pointer (some p2),.pointer (some p3)] W fun e w'=>e= .returned (.tuple #[])/\∃a' c',Wr w' R a' c' l/\Step W w' R):
  Calls Tryz.prog 85 #[.func (.func 86) #[] #[.pointer (some p1),.pointer (some p2),.pointer (some p3)]] w fun e w'=>e= .returned (.tuple #[zAe l,.int .i64 0])/\Below w.heap.size w w':=by
 have hmf:∀(fn:Fn) (first cap:Array Value) (w:World),(Instr.makeFunc fn first cap).run Tryz.prog w= .ok (.func fn first cap) w:=fun _ _ _ _=>rfl
 obtain⟨B,hB⟩:=zB w.heap.size
 have hB':=zH hB
 obtain⟨W1,hW1⟩:=zB (w.alloc (.cells #[.string ⟨#[]⟩,.int .i64 0] 51))
 obtain⟨W2,hW2⟩:=zB (W1.alloc (.cells #[.int .i64 0] 26))
 obtain⟨W3,hW3⟩:=zB (W2.alloc (.cells #[.slice none 0 0,.int .i64 0] TW))
 have z1:W1.heap.size=B+1:=by rw[<-hW1,zA,hB]
 have z2:W2.heap.size=B+2:=by rw[<-hW2,zA,z1]
 have z3:W3.heap.size=B+3:=by rw[<-hW3,zA,z2]
 have b1:Below B w W1:=by rw[<-hW1,<-hB];exact(Below.refl _ _).alloc (Nat.le_refl _) _
 have b2:Below (B+1) W1 W2:=by rw[<-hW2,<-z1];exact(Below.refl _ _).alloc (Nat.le_refl _) _
 have b3:Below (B+2) W2 W3:=by rw[<-hW3,<-z2];exact(Below.refl _ _).alloc (Nat.le_refl _) _
 have new:∀(W:World) (o:Obj),(W.alloc o).heap[W.heap.size]? =some o:=fun W o=>by show(W.heap.push o)[W.heap.size]? =_;simp
 have c1:W3.heap[B]? =some (.cells #[.string ⟨#[]⟩,.int .i64 0] 51 (0,0)):=by
  rw[b3.block B (by omega),b2.block B (by omega),<-hW1,<-hB]
  exact new _ _
 have c2:W3.heap[B+1]? =some (.cells #[.int .i64 0] 26 (0,0)):=by
  rw[b3.block (B+1) (by omega),<-hW2,<-z1]
  exact new _ _
 have c3:W3.heap[B+2]? =some (.cells #[.slice none 0 0,.int .i64 0] TW (0,0)):=by
  rw[<-hW3,<-z2]
  exact new _ _
 have b123:Below B w W3:=(b1.trans (b2.mono (by omega))).trans (b3.mono (by omega))
 have hwr:Wr W3 (B+2) none 0 []:=⟨c3,Kit.Own.start _ _ _⟩
 have HQ:=zH (H W3 (B+2) (by omega) (by rw[hB];exact b123) hwr)
 have HB:=zH b123
 have C1:=zH c1
 have C2:=zH c2
 clear H b1 b2 b3 c1 c2 c3 hwr b123 new
 go_enter_defers Tryz.func85,Tryz.ntmps85
 go_wp2_with fail
 clear hW1 hW2 hW3 z1 z2 hB
 (with_reducible refine HQ.out.mono ?_)
 rintro e w4 ⟨rfl,a4,k4,hw4,hs4⟩
 have d1:w4.heap[B]? =some (.cells #[.string ⟨#[]⟩,.int .i64 0] 51 (0,0)):=(hs4.below.block B (by omega)).trans C1.out
 have d2:w4.heap[B+1]? =some (.cells #[.int .i64 0] 26 (0,0)):=(hs4.below.block (B+1) (by omega)).trans C2.out
 have HB4:=zH (HB.out.trans (hs4.below.mono (by omega)))
 have hcv:=Kit.Src.text (P:=Tryz.prog) (n:=(pkL l).length) (c:=k4) (src:=109) (dst:=9) hw4.own.src rfl Tryz.underlying109 Tryz.underlying5 Tryz.underlying9
 obtain⟨x0,x1,f0,f1⟩:=zAf hw4.blk
 obtain⟨y0,y1,g0,g1⟩:=zAf d1
 have u0:w4.cell? ⟨B+1,0,none⟩=some (.int .i64 0):=by simp[World.cell?,d2]
 have v0:w4.frozen? ⟨B+1,0,none⟩=false:=by simp[World.frozen?,d2]
 clear hw4 hs4 d1 d2
 obtain⟨F,hF⟩:=zB (((w4.setCell ⟨B,0,none⟩ (.string ⟨(pkL l).toArray⟩)).setCell ⟨B,1,none⟩ (.int .i64 (l.length:Int))).setCell ⟨B+1,0,none⟩ (.int .i64 0))
 have r0:F.cell? ⟨B,0,none⟩=some (.string ⟨(pkL l).toArray⟩):=by
  rw[<-hF,World.cell?_setCell_other _ _ _ _ (by intro e;injection e with e1 _ _;omega),World.cell?_setCell_other _ _ _ _ (by intro e;injection e with _ e2 _;omega)]
  exact World.cell?_setCell_same _ _ _ y0
 have r1:F.cell? ⟨B,1,none⟩=some (.int .i64 (l.length:Int)):=by
  rw[<-hF,World.cell?_setCell_other _ _ _ _ (by intro e;injection e with e1 _ _;omega)]
  refine World.cell?_setCell_same _ _ _ (u:= .int .i64 0) ?_
  rw[World.cell?_setCell_other _ _ _ _ (by intro e;injection e with _ e2 _;omega)]
  exact y1
 have r2:F.cell? ⟨B+1,0,none⟩=some (.int .i64 0):=by
  rw[<-hF]
  refine World.cell?_setCell_same _ _ _ (u:= .int .i64 0) ?_
  rw[World.cell?_setCell_other _ _ _ _ (by intro e;injection e with e1 _ _;omega),World.cell?_setCell_other _ _ _ _ (by intro e;injection e with e1 _ _;omega)]
  exact u0
 have HF:=zH (show Below B w F by rw[<-hF];exact((HB4.out.setCell (p:=⟨B,0,none⟩) (Nat.le_refl _) _).setCell (p:=⟨B,1,none⟩) (Nat.le_refl _) _).setCell (p:=⟨B+1,0,none⟩) (Nat.le_succ _) _)
 go_wp2
 refine leaves_cons (f:=155) (args:= #[.pointer (some ⟨B,0,none⟩),.pointer (some ⟨B+1,0,none⟩)]) (by simp) (by simp[go_sem]) ?_
 refine(zRd ⟨B,0,none⟩ ⟨B+1,0,none⟩ F).mono ?_
 rintro e u' w'' ⟨rfl,rfl,rfl⟩
 have q0:(Value.agg #[.string ⟨(pkL l).toArray⟩,.int .i64 (l.length:Int)])=zAe l:=by simp[zAe,pk]
 simp[Leaves,settle,results,Tryz.results85,go_sem,r0,r1,r2,q0]
 rw[hB'.out]
 exact HF.out
theorem qAl (p1:Addr) (l:List Bool) (hl:l.length<=1000000) (w:World)
  (H:∀W R,w.heap.size<=R->Below w.heap.size w W->Wr W R none 0 []->Calls Tryz.prog 103 #[.pointer (some ⟨R,0,none⟩),.pointer (some p1)] W fun e w'=>e= .returned (.tuple #[])/\∃a' c',Wr w' R a' c' l/\Step W w' R):
  Calls Tryz.prog 85 #[.func (.func 103) #[] #[.pointer (some p1)]] w fun e w'=>e= .returned (.tuple #[zAe l,.int .i64 0])/\Below w.heap.size w w':=by
 have hmf:∀(fn:Fn) (first cap:Array Value) (w:World),(Instr.makeFunc fn first cap).run Tryz.prog w= .ok (.func fn first cap) w:=fun _ _ _ _=>rfl
 obtain⟨B,hB⟩:=zB w.heap.size
 have hB':=zH hB
 obtain⟨W1,hW1⟩:=zB (w.alloc (.cells #[.string ⟨#[]⟩,.int .i64 0] 51))
 obtain⟨W2,hW2⟩:=zB (W1.alloc (.cells #[.int .i64 0] 26))
 obtain⟨W3,hW3⟩:=zB (W2.alloc (.cells #[.slice none 0 0,.int .i64 0] TW))
 have z1:W1.heap.size=B+1:=by rw[<-hW1,zA,hB]
 have z2:W2.heap.size=B+2:=by rw[<-hW2,zA,z1]
 have z3:W3.heap.size=B+3:=by rw[<-hW3,zA,z2]
 have b1:Below B w W1:=by rw[<-hW1,<-hB];exact(Below.refl _ _).alloc (Nat.le_refl _) _
 have b2:Below (B+1) W1 W2:=by rw[<-hW2,<-z1];exact(Below.refl _ _).alloc (Nat.le_refl _) _
 have b3:Below (B+2) W2 W3:=by rw[<-hW3,<-z2];exact(Below.refl _ _).alloc (Nat.le_refl _) _
 have new:∀(W:World) (o:Obj),(W.alloc o).heap[W.heap.size]? =some o:=fun W o=>by show(W.heap.push o)[W.heap.size]? =_;simp
 have c1:W3.heap[B]? =some (.cells #[.string ⟨#[]⟩,.int .i64 0] 51 (0,0)):=by
  rw[b3.block B (by omega),b2.block B (by omega),<-hW1,<-hB]
  exact new _ _
 have c2:W3.heap[B+1]? =some (.cells #[.int .i64 0] 26 (0,0)):=by
  rw[b3.block (B+1) (by omega),<-hW2,<-z1]
  exact new _ _
 have c3:W3.heap[B+2]? =some (.cells #[.slice none 0 0,.int .i64 0] TW (0,0)):=by
  rw[<-hW3,<-z2]
  exact new _ _
 have b123:Below B w W3:=(b1.trans (b2.mono (by omega))).trans (b3.mono (by omega))
 have hwr:Wr W3 (B+2) none 0 []:=⟨c3,Kit.Own.start _ _ _⟩
 have HQ:=zH (H W3 (B+2) (by omega) (by rw[hB];exact b123) hwr)
 have HB:=zH b123
 have C1:=zH c1
 have C2:=zH c2
 clear H b1 b2 b3 c1 c2 c3 hwr b123 new
 go_enter_defers Tryz.func85,Tryz.ntmps85
 go_wp2_with fail
 clear hW1 hW2 hW3 z1 z2 hB
 (with_reducible refine HQ.out.mono ?_)
 rintro e w4 ⟨rfl,a4,k4,hw4,hs4⟩
 have d1:w4.heap[B]? =some (.cells #[.string ⟨#[]⟩,.int .i64 0] 51 (0,0)):=(hs4.below.block B (by omega)).trans C1.out
 have d2:w4.heap[B+1]? =some (.cells #[.int .i64 0] 26 (0,0)):=(hs4.below.block (B+1) (by omega)).trans C2.out
 have HB4:=zH (HB.out.trans (hs4.below.mono (by omega)))
 have hcv:=Kit.Src.text (P:=Tryz.prog) (n:=(pkL l).length) (c:=k4) (src:=109) (dst:=9) hw4.own.src rfl Tryz.underlying109 Tryz.underlying5 Tryz.underlying9
 obtain⟨x0,x1,f0,f1⟩:=zAf hw4.blk
 obtain⟨y0,y1,g0,g1⟩:=zAf d1
 have u0:w4.cell? ⟨B+1,0,none⟩=some (.int .i64 0):=by simp[World.cell?,d2]
 have v0:w4.frozen? ⟨B+1,0,none⟩=false:=by simp[World.frozen?,d2]
 clear hw4 hs4 d1 d2
 obtain⟨F,hF⟩:=zB (((w4.setCell ⟨B,0,none⟩ (.string ⟨(pkL l).toArray⟩)).setCell ⟨B,1,none⟩ (.int .i64 (l.length:Int))).setCell ⟨B+1,0,none⟩ (.int .i64 0))
 have r0:F.cell? ⟨B,0,none⟩=some (.string ⟨(pkL l).toArray⟩):=by
  rw[<-hF,World.cell?_setCell_other _ _ _ _ (by intro e;injection e with e1 _ _;omega),World.cell?_setCell_other _ _ _ _ (by intro e;injection e with _ e2 _;omega)]
  exact World.cell?_setCell_same _ _ _ y0
 have r1:F.cell? ⟨B,1,none⟩=some (.int .i64 (l.length:Int)):=by
  rw[<-hF,World.cell?_setCell_other _ _ _ _ (by intro e;injection e with e1 _ _;omega)]
  refine World.cell?_setCell_same _ _ _ (u:= .int .i64 0) ?_
  rw[World.cell?_setCell_other _ _ _ _ (by intro e;injection e with _ e2 _;omega)]
  exact y1
 have r2:F.cell? ⟨B+1,0,none⟩=some (.int .i64 0):=by
  rw[<-hF]
  refine World.cell?_setCell_same _ _ _ (u:= .int .i64 0) ?_
  rw[World.cell?_setCell_other _ _ _ _ (by intro e;injection e with e1 _ _;omega),World.cell?_setCell_other _ _ _ _ (by intro e;injection e with e1 _ _;omega)]
  exact u0
 have HF:=zH (show Below B w F by rw[<-hF];exact((HB4.out.setCell (p:=⟨B,0,none⟩) (Nat.le_refl _) _).setCell (p:=⟨B,1,none⟩) (Nat.le_refl _) _).setCell (p:=⟨B+1,0,none⟩) (Nat.le_succ _) _)
 go_wp2
 refine leaves_cons (f:=155) (args:= #[.pointer (some ⟨B,0,none⟩),.pointer (some ⟨B+1,0,none⟩)]) (by simp) (by simp[go_sem]) ?_
 refine(zRd ⟨B,0,none⟩ ⟨B+1,0,none⟩ F).mono ?_
 rintro e u' w'' ⟨rfl,rfl,rfl⟩
 have q0:(Value.agg #[.string ⟨(pkL l).toArray⟩,.int .i64 (l.length:Int)])=zAe l:=by simp[zAe,pk]
 simp[Leaves,settle,results,Tryz.results85,go_sem,r0,r1,r2,q0]
 rw[hB'.out]
 exact HF.out
end Bt
namespace Bt
open Go.RowKit
variable {w w':World} {u x y:Value} {t:TypeId} {r:Nat}
theorem zEb {B:Nat} (h:w.heap[B]? =some (.cells #[u] t (0,0))):w.cell? ⟨B,0,none⟩=some u/\w.frozen? ⟨B,0,none⟩=false:=
 ⟨by simp[World.cell?,h],by simp[World.frozen?,h]⟩
theorem Step.keep {R k:Nat} {cs:Array Value} (h:Step w w' R) (hR:k≠R) (hk:w.heap[k]? =some (.cells cs t (0,0))) (ht:t≠TB):w'.heap[k]? =some (.cells cs t (0,0)):=by
 have hlt:k<w.heap.size:=by
  rcases Nat.lt_or_ge k w.heap.size with hlt|hge
  ·exact hlt
  ·rw[Array.getElem?_eq_none hge]at hk;cases hk
 exact(h.old k hlt hR (fun cs f e=>by rw[hk]at e;injection e with e;injection e with _ e _;exact ht e)).trans hk
theorem zEk {f:Func} {p u:Tmp} (h:f.results= #[.cell p 51,.tmp u]) (tmps:Array Value) (w:World) (r:Nat) (e x y:Value) (hp:tmps.getD p undef= .pointer (some ⟨r,0,none⟩)) (he:tmps.getD u undef=e)
  (h0:w.cell? ⟨r,0,none⟩=some x) (h1:w.cell? ⟨r,1,none⟩=some y):(results f tmps).run Tryz.prog w= .ok (.tuple #[.agg #[x,y],e]) w:=by
 have hl:(loadVar 51 ⟨r,0,none⟩).run Tryz.prog w= .ok (.agg #[x,y]) w:=by simp[loadVar,go_sem,h0,h1]
 rw[results_cell_tmp h,hp,he]
 simp[asAddr,hl,Result.andThen]
theorem zCy (h:w.cell? ⟨r,0,none⟩=some u):((w.setCell ⟨r,0,none⟩ x).setCell ⟨r,1,none⟩ y).cell? ⟨r,0,none⟩=some x:=by
 rw[World.cell?_setCell_other _ _ _ _ (by intro e;injection e with _ e2 _;omega)];exact World.cell?_setCell_same _ _ _ h
theorem zCx (h:w.cell? ⟨r,1,none⟩=some u):((w.setCell ⟨r,0,none⟩ x).setCell ⟨r,1,none⟩ y).cell? ⟨r,1,none⟩=some y:=
 World.cell?_setCell_same _ _ _ (u:=u) (by rw[World.cell?_setCell_other _ _ _ _ (by intro e;injection e with _ e2 _;omega)];exact h)
theorem zCs {D:Nat} (h:Below D w w') (hr:D<=r):Below D w ((w'.setCell ⟨r,0,none⟩ x).setCell ⟨r,1,none⟩ y):=
 (h.setCell (p:=⟨r,0,none⟩) hr _).setCell (p:=⟨r,1,none⟩) hr _
theorem zZt (R Q1 Q2 Q3:Nat) (m:List Bool) (v n:Nat) (w:World) (hw:Wr w R none 0 []) (hv:v<18446744073709551616) (hn:n<=64) (hl:m.length+n<=1000000)
  (r1:Q1≠R) (r2:Q2≠R) (r3:Q3≠R)
  (h1:w.heap[Q1]? =some (.cells #[.string (pk m),.int .i64 (m.length:Int)] 51 (0,0)))
  (h2:w.heap[Q2]? =some (.cells #[.int .u64 (v:Int)] 64 (0,0)))
  (h3:w.heap[Q3]? =some (.cells #[.int .i64 (n:Int)] 3 (0,0))):
  Calls Tryz.prog 86 #[.pointer (some ⟨R,0,none⟩),.pointer (some ⟨Q1,0,none⟩),.pointer (some ⟨Q2,0,none⟩),.pointer (some ⟨Q3,0,none⟩)] w fun e w'=>e= .returned (.tuple #[])/\∃a' c',Wr w' R a' c' (m++num v n)/\Step w w' R:=by
 have HB:=zH (zN3 R none 0 [] m w hw (by simp;omega))
 obtain⟨d,hd⟩:=zB (pk m)
 unfold zAe at HB
 rw[hd]at h1 HB
 obtain⟨k,hk⟩:=zB m.length
 rw[hk]at h1 HB
 obtain⟨x0,x1,f0,f1⟩:=zAf h1
 have H2:=zH h2
 have H3:=zH h3
 clear h1 h2 h3 hw hd
 go_enter Tryz.func86,Tryz.ntmps86
 go_wp2_with fail
 (with_reducible refine HB.out.mono ?_)
 rintro e w1 ⟨rfl,a1,c1,hw1,hs1⟩
 rw[List.nil_append]at hw1
 obtain⟨y0,g0⟩:=zEb (hs1.keep r2 H2.out (by decide))
 obtain⟨z0,e0⟩:=zEb (hs1.keep r3 H3.out (by decide))
 have HN:=zH (zYr R a1 c1 m v n hv hn w1 hw1 hl)
 have HS:=zH hs1
 clear hw1 hs1 x0 x1 f0 f1
 go_wp2_with fail
 (with_reducible refine HN.out.mono ?_)
 rintro e w2 ⟨rfl,a2,c2,hw2,hs2⟩
 have HW:=zH hw2
 have HS2:=zH (HS.out.trans hs2)
 clear hw2 hs2
 go_wp2
 go_end0
 exact⟨rfl,a2,c2,HW.out,HS2.out⟩
theorem zJo (m:List Bool) (v n:Nat) (w:World) (hv:v<18446744073709551616) (hn:n<=64) (hl:m.length+n<=1000000):
  Calls Tryz.prog 24 #[zAe m,.int .u64 (v:Int),.int .i64 (n:Int)] w fun e w'=>e= .returned (.tuple #[zAe (m++num v n),.int .i64 0])/\Below w.heap.size w w':=by
 have hmf:∀(fn:Fn) (first cap:Array Value) (w:World),(Instr.makeFunc fn first cap).run Tryz.prog w= .ok (.func fn first cap) w:=fun _ _ _ _=>rfl
 obtain⟨B,hB⟩:=zB w.heap.size
 obtain⟨W1,hW1⟩:=zB (w.alloc (.cells #[.string (pk m),.int .i64 (m.length:Int)] 51))
 obtain⟨W2,hW2⟩:=zB (W1.alloc (.cells #[.int .u64 (v:Int)] 64))
 obtain⟨W3,hW3⟩:=zB (W2.alloc (.cells #[.int .i64 (n:Int)] 3))
 obtain⟨W4,hW4⟩:=zB (W3.alloc (.cells #[.string ⟨#[]⟩,.int .i64 0] 51))
 have z1:W1.heap.size=B+1:=by rw[<-hW1,zA,hB]
 have z2:W2.heap.size=B+2:=by rw[<-hW2,zA,z1]
 have z3:W3.heap.size=B+3:=by rw[<-hW3,zA,z2]
 have z4:W4.heap.size=B+4:=by rw[<-hW4,zA,z3]
 have b1:Below B w W1:=by rw[<-hW1,<-hB];exact(Below.refl _ _).alloc (Nat.le_refl _) _
 have b2:Below (B+1) W1 W2:=by rw[<-hW2,<-z1];exact(Below.refl _ _).alloc (Nat.le_refl _) _
 have b3:Below (B+2) W2 W3:=by rw[<-hW3,<-z2];exact(Below.refl _ _).alloc (Nat.le_refl _) _
 have b4:Below (B+3) W3 W4:=by rw[<-hW4,<-z3];exact(Below.refl _ _).alloc (Nat.le_refl _) _
 have new:∀(W:World) (o:Obj),(W.alloc o).heap[W.heap.size]? =some o:=fun W o=>by show(W.heap.push o)[W.heap.size]? =_;simp
 have c1:W4.heap[B]? =some (.cells #[.string (pk m),.int .i64 (m.length:Int)] 51 (0,0)):=by
  rw[b4.block B (by omega),b3.block B (by omega),b2.block B (by omega),<-hW1,<-hB]
  exact new _ _
 have c2:W4.heap[B+1]? =some (.cells #[.int .u64 (v:Int)] 64 (0,0)):=by
  rw[b4.block (B+1) (by omega),b3.block (B+1) (by omega),<-hW2,<-z1]
  exact new _ _
 have c3:W4.heap[B+2]? =some (.cells #[.int .i64 (n:Int)] 3 (0,0)):=by
  rw[b4.block (B+2) (by omega),<-hW3,<-z2]
  exact new _ _
 have c4:W4.heap[B+3]? =some (.cells #[.string ⟨#[]⟩,.int .i64 0] 51 (0,0)):=by
  rw[<-hW4,<-z3]
  exact new _ _
 have b123:Below B w W4:=((b1.trans (b2.mono (by omega))).trans (b3.mono (by omega))).trans (b4.mono (by omega))
 have hnl:(num v n).length=n:=by simp[num]
 have HL:=zH (qAk ⟨B,0,none⟩ ⟨B+1,0,none⟩ ⟨B+2,0,none⟩ (m++num v n) (by rw[List.length_append,hnl];omega) W4 (fun W R hR hb hwr=>
  zZt R B (B+1) (B+2) m v n W hwr hv hn hl (by omega) (by omega) (by omega) ((hb.block B (by omega)).trans c1) ((hb.block (B+1) (by omega)).trans c2) ((hb.block (B+2) (by omega)).trans c3)))
 have HB:=zH (show ∀w',Below W4.heap.size W4 w'->Below B w w' from fun w' h=>b123.trans (h.mono (by omega)))
 have HC:=zH (show ∀w',Below W4.heap.size W4 w'->w'.heap[B+3]? =some (.cells #[.string ⟨#[]⟩,.int .i64 0] 51 (0,0))from fun w' h=>(h.block (B+3) (by omega)).trans c4)
 clear b1 b2 b3 b4 c1 c2 c3 c4 b123 new
 unfold zAe at HL⊢
 rw[hB]
 go_enter Tryz.func24,Tryz.ntmps24
 go_wp2_with fail
 clear hW1 hW2 hW3 hW4 z1 z2 z3 z4
 (with_reducible refine HL.out.mono ?_)
 rintro e w4 ⟨rfl,hb4⟩
 have H4:=zH (HB.out w4 hb4)
 obtain⟨y0,y1,g0,g1⟩:=zAf (HC.out w4 hb4)
 clear hb4
 go_wp2
 try simp only[Exit.inBlock,Exit.then]
 refine bodyPost_ret (zEk rfl _ _ (B+3) _ _ _ rfl rfl (zCy y0) (zCx y1)) rfl ⟨?_,zCs H4.out (by omega)⟩
 rw[List.length_append,hnl,Int.natCast_add]
 rfl
end Bt
namespace Bt
open Go.RowKit
variable {n B:Nat} {g h:Nat->Value} {w w':World} {t ty:TypeId} {P:Program} {o:Oper} {a:Act} {K:Act->World->Prop} {Q:Exit->Act->World->Prop} {x:Operand} {v:Value} {f:Nat->Nat}
def cellsOf (n:Nat) (g:Nat->Value):Array Value:=(Array.range n).map g
theorem cellsOf_size (n:Nat) (g:Nat->Value):(cellsOf n g).size=n:=by simp[cellsOf]
theorem zCe (n:Nat) (g:Nat->Value) (k:Nat) (h:k<n):(cellsOf n g)[k]? =some (g k):=by simp[cellsOf,h]
def upd (g:Nat->Value) (k:Nat) (v:Value):Nat->Value:=fun j=>if j=k then v else g j
theorem upd_same (g:Nat->Value) (k:Nat) (v:Value):upd g k v k=v:=by simp[upd]
theorem zWa (g:Nat->Value) (k j:Nat) (v:Value) (h:j≠k):upd g k v j=g j:=by simp[upd,h]
theorem cellsOf_set (n:Nat) (g:Nat->Value) (k:Nat) (v:Value):(cellsOf n g).setIfInBounds k v=cellsOf n (upd g k v):=by
 apply Array.ext_getElem?
 intro j
 rw[Array.getElem?_setIfInBounds]
 by_cases hj:j<n
 ·rw[zCe n g j hj,zCe n _ j hj]
  by_cases e:k=j
  ·subst e;rw[if_pos rfl,if_pos (by rw[cellsOf_size];exact hj),upd_same]
  ·rw[if_neg e,zWa _ _ _ _ (fun h=>e h.symm)]
 ·rw[Array.getElem?_eq_none (by rw[cellsOf_size];omega),Array.getElem?_eq_none (by rw[cellsOf_size];omega)]
  by_cases e:k=j
  ·subst e;rw[if_pos rfl,if_neg (by rw[cellsOf_size];exact hj)]
  ·rw[if_neg e]
theorem zDm (e:∀k,k<n->g k=h k):cellsOf n g=cellsOf n h:=by
 apply Array.ext_getElem?
 intro j
 by_cases hj:j<n
 ·rw[zCe n g j hj,zCe n h j hj,e j hj]
 ·rw[Array.getElem?_eq_none (by rw[cellsOf_size];omega),Array.getElem?_eq_none (by rw[cellsOf_size];omega)]
def Arr (w:World) (B:Nat) (t:TypeId) (n:Nat) (g:Nat->Value):Prop:=w.heap[B]? =some (.cells (cellsOf n g) t (0,0))
theorem Arr.cell (h:Arr w B t n g) (k:Nat) (hk:k<n):w.cell? ⟨B,k,none⟩=some (g k):=by
 simp[World.cell?,show w.heap[B]? =_ from h,zCe n g k hk]
theorem Arr.free (h:Arr w B t n g) (k:Nat):w.frozen? ⟨B,k,none⟩=false:=by
 simp[World.frozen?,show w.heap[B]? =_ from h]
theorem Arr.set (h:Arr w B t n g) (k:Nat) (v:Value):Arr (w.setCell ⟨B,k,none⟩ v) B t n (upd g k v):=by
 unfold Arr
 rw[<-cellsOf_set]
 simp[World.setCell,Array.getElem?_modify,show w.heap[B]? =_ from h]
theorem Arr.congr (a:Arr w B t n g) (e:∀k,k<n->g k=h k):Arr w B t n h:=by
 unfold Arr;rw[<-zDm e];exact a
theorem Arr.lt (h:Arr w B t n g):B<w.heap.size:=(Array.getElem?_eq_some_iff.1 h).1
theorem zGu (ho:o.op= .load ty x) {g:Addr} (hx:a.eval x= .pointer (some g))
  (hr:(loadVar ty g).run P w= .ok v w) (h:K (a.put o.dst v) w):o.wp P a w K Q:=by
 unfold Oper.wp execOp
 simp only[ho,hx,Instr.loadAt,Instr.sureAddr,Sem.run_bind,Sem.run_pure,Result.andThen_ok,hr]
 exact h
theorem zPs {y:Operand} (ho:o.op= .store ty x y) {g:Addr} (hx:a.eval x= .pointer (some g)) (hy:a.eval y=v)
  (hr:(storeVar ty g v).run P w= .ok () w') (h:K (a.put o.dst undef) w'):o.wp P a w K Q:=by
 unfold Oper.wp execOp
 simp only[ho,hx,hy,Instr.storeAt,Instr.sureAddr,Sem.run_bind,Sem.run_pure,Result.andThen_ok,hr]
 exact h
theorem zE2 (w:World) (g:Nat) (t:TypeId) (cs cs':Array Value) (hg:w.heap[g]? =some (.cells cs t (0,0))) (hs:cs'.size=cs.size) (h1:cs'.all (·.oneCell')=true):
  (storeCells ⟨g,0,none⟩ cs'.toList).run P w= .ok () (w.setRow g cs'):=by
 have:=run_storeCells_at (P:=P) g 0 t cs'.toList 0 cs w hg (by simp;omega) (fun v hv=>(Array.all_eq_true_iff_forall_mem.1 h1) v (by simpa using hv))
 rw[this]
 congr 2
 apply Array.ext'
 simp[hs,List.drop_of_length_le]
theorem zE8 {e:TypeId} (hu:P.underlying t=some (.array n e)) (ha:∀w,(isAgg e).run P w= .ok false w) (hz:∀w,(sizeOf e).run P w= .ok 1 w) (cs:Array Value) (k:Nat) (v:Value) (hk:k<n) (hc:cs[k]? =some v) (w:World):
  (Instr.index t (.agg cs) (.int .i64 (k:Int))).run P w= .ok v w:=by
 have h1:(0:Int)<=(k:Int)/\(k:Int)<(n:Int):=⟨by omega,by omega⟩
 simp[Instr.index,asIntOf,Sem.run_bind,run_underlying hu,h1,hz,part,ha,hc]
 omega
def zAm (w:World) (B:Nat) (t:TypeId) (n:Nat) (f:Nat->Nat):Prop:=Arr w B t n fun j=> .int .i64 (f j:Int)
def zAy (f:Nat->Nat) (k v:Nat):Nat->Nat:=fun j=>if j=k then v else f j
theorem zCj (f:Nat->Nat) (k v:Nat):zAy f k v k=v:=by simp[zAy]
theorem zBb (f:Nat->Nat) (k v j:Nat) (h:j≠k):zAy f k v j=f j:=by simp[zAy,h]
theorem zAm.cell (h:zAm w B t n f) (k:Nat) (hk:k<n):w.cell? ⟨B,k,none⟩=some (.int .i64 (f k:Int)):=Arr.cell h k hk
theorem zAm.free (h:zAm w B t n f) (k:Nat):w.frozen? ⟨B,k,none⟩=false:=Arr.free h k
theorem zAm.set (h:zAm w B t n f) (k v:Nat) {V:Int} (hV:V=(v:Int)):zAm (w.setCell ⟨B,k,none⟩ (.int .i64 V)) B t n (zAy f k v):=by
 subst hV
 refine(Arr.set h k (.int .i64 (v:Int))).congr (fun j _=> ?_)
 unfold upd zAy
 by_cases e:j=k
 ·simp[e]
 ·simp[e]
theorem zAm.congr {g:Nat->Nat} (a:zAm w B t n f) (e:∀k,k<n->f k=g k):zAm w B t n g:=Arr.congr a (fun k hk=>by rw[e k hk])
theorem zAm.keep (h:zAm w B t n f) (e:w'.heap[B]? =w.heap[B]?):zAm w' B t n f:=e.trans h
theorem zAm.lt (h:zAm w B t n f):B<w.heap.size:=Arr.lt h
theorem zAm.zeros (B:Nat) (w:World) (n:Nat) (t:TypeId) (hB:w.heap.size=B):zAm (w.alloc (.cells (cellsOf n (fun _=> .int .i64 0)) t)) B t n (fun _=>0):=by
 show _=_
 rw[<-hB]
 show(w.heap.push _)[w.heap.size]? =_
 simp
end Bt
end Go.Proofs.YtppnakkaljbmbaaGreatDoor
