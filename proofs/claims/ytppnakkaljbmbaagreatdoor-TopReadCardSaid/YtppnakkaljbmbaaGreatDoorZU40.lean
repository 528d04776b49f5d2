/- Steps of a proof; no condition beyond what each states. -/
import Derived.Test.YtppnakkaljbmbaaGreatDoorZU39
set_option linter.unusedVariables false
set_option linter.unusedSimpArgs false
set_option maxRecDepth 100000
set_option maxHeartbeats 8000000
namespace Go.Proofs.YtppnakkaljbmbaaGreatDoor
namespace Sh
open Go.RowKit Hf Bt Zr Ix Front Wg Ch Sl Sq Us St Tn Bk Rg Sm
abbrev TBy:TypeId:=379
abbrev tOk:ByteArray:=⟨#[111,107]⟩
abbrev zM2:ByteArray:=⟨#[111,107,10]⟩
abbrev zA5:ByteArray:=⟨#[115,97,121]⟩
abbrev zJh:ByteArray:=⟨#[115,97,121,32,54,49,54,50,10]⟩
theorem qBy (s:ByteArray) (w:World):(Instr.typeAssert (.iface zAk (.string s)) 20 TBy true).run Tryz.prog w= .ok (.tuple #[.string ⟨#[]⟩,.bool false]) w:=by kernel_rfl
theorem zWk (s:ByteArray) (w:World):(Instr.typeAssert (.iface zAk (.string s)) 20 3 true).run Tryz.prog w= .ok (.tuple #[.int .i64 0,.bool false]) w:=by kernel_rfl
theorem zWi (s:ByteArray) (w:World):(Instr.typeAssert (.iface zAk (.string s)) 20 65 true).run Tryz.prog w= .ok (.tuple #[.int .u32 0,.bool false]) w:=by kernel_rfl
theorem zWl (s:ByteArray) (w:World):(Instr.typeAssert (.iface zAk (.string s)) 20 26 true).run Tryz.prog w= .ok (.tuple #[.int .i64 0,.bool false]) w:=by kernel_rfl
theorem zWj (s:ByteArray) (w:World):(Instr.typeAssert (.iface zAk (.string s)) 20 zAk true).run Tryz.prog w= .ok (.tuple #[.string s,.bool true]) w:=by kernel_rfl
theorem qEu (s:ByteArray) (w:World):(Instr.typeAssert (.iface TBy (.string s)) 20 TBy true).run Tryz.prog w= .ok (.tuple #[.string s,.bool true]) w:=by kernel_rfl
theorem qDc (b:Nat) (w:World) (h:w.cell? ⟨b,0,none⟩=some (.iface zAk (.string tOk))):
  Calls Tryz.prog 229 #[.slice (some ⟨b,0,none⟩) 1 1] w fun e w'=>e= .returned (.string zM2)/\Below w.heap.size w w':=by
 obtain⟨B,hB⟩:=zB w.heap.size
 have H:=zH h
 have HB:=zH hB
 rw[hB]
 clear h hB
 go_enter Tryz.func229,Tryz.ntmps229
 go_wp2
 go_loopw [3,13] (fun ov iv wr=>∃k:Nat,k<=1/\iv= .int .i64 k/\∃p c,ov= .slice p k c/\RowKit.Hid (Kit.Own wr B zAk p k c (([.string tOk]:List Value).take k))/\RowKit.Hid (Below B w wr)) (fun _ iv _=>1-(intOf iv).toNat)
 case atStart=>exact⟨0,by omega,rfl,none,0,rfl,zH (Kit.Own.start _ _ _),zH (Below.refl _ _)⟩
 case round=>
  obtain⟨k,hk,rfl,p,c,rfl,how,hbw⟩:=hrel
  obtain rfl|rfl:k=0\/k=1:=by omega
  ·rw[show((0:Nat):Int)=0 from rfl]
   have x0:wr.cell? ⟨b,0,none⟩=some (.iface zAk (.string tOk)):=by rw[hbw.out.cell (p:=⟨b,0,none⟩) (by rw[<-HB.out];exact block_lt_of_cell H.out)];exact H.out
   have hz:B<=wr.heap.size:=by have:=hbw.out.size;rw[HB.out]at this;exact this
   obtain⟨p1,c1,w1,hr,ho,hg⟩:=Kit.Own.app (ty:=zBf) zL2 (how.out.alloc (.cells #[.string tOk] zAk)) (some ⟨wr.heap.size,0,none⟩) 1 1 [.string tOk] (Kit.zAs wr (.string tOk) zAk) rfl (fun h=>by cases h) (by simp[Value.oneCell']) (by unfold maxLen;omega) (by omega) (by simp;omega)
   have hbk:=(how.out.alloc (.cells #[.string tOk] zAk)).block
   have HO:=zH ho
   have HB2:=zH ((hbw.out.alloc hz (.cells #[.string tOk] zAk)).trans (Kit.zAq hg (by simp;omega) (fun k hk=>hbk k hk)))
   have t1:=qBy tOk
   have t2:=zWk tOk
   have t3:=zWi tOk
   have t4:=zWl tOk
   have t5:=zWj tOk
   clear how hbw ho hg hbk
   go_wp2_with (at_builtin;refine Kit.zAr rfl (.tmp 59) (.tmp 61) zBf rfl rfl rfl hr ?_)
   go_roundw
   case rel=>exact⟨1,by omega,rfl,p1,c1,rfl,HO,HB2⟩
   case measure=>simp only[intOf];omega
  ·rw[show((1:Nat):Int)=1 from rfl]
   have hz:B<=wr.heap.size:=by have:=hbw.out.size;rw[HB.out]at this;exact this
   obtain⟨g,rfl,_,hgl,hgc,hc,_⟩:=how.out.at_ (by omega)
   have HJ:=zH (Tryz.strings_Join g 0 c [tOk] ⟨#[32]⟩ wr (fun j x hx=>by
    match j,hx with
    |0,hx=>
     simp at hx
     subst hx
     rw[Nat.add_zero,hc 0 (by omega)]
     rfl) hgl (by simp) (by simpa using hgc) (by decide))
   rw[show(⟨(Lib.join ([tOk].map (·.data.toList)) (⟨#[32]⟩:ByteArray).data.toList).toArray⟩:ByteArray)=tOk from rfl,show([tOk]:List ByteArray).length=1 from rfl]at HJ
   have hcat:tOk++(⟨#[10]⟩:ByteArray)=zM2:=rfl
   have hs1:tOk.size=2:=rfl
   have hs2:(⟨#[10]⟩:ByteArray).size=1:=rfl
   have HBW:=zH hbw.out
   have HZ:=zH hz
   clear how hbw hc hz
   go_wp2_with fail
   (with_reducible refine HJ.out.mono ?_)
   rintro e w2 ⟨rfl,hb2⟩
   have B2:=zH (HBW.out.trans (hb2.mono HZ.out))
   clear hb2 HJ
   go_wp2
   go_ret
   exact⟨rfl,B2.out⟩
theorem qAi (b:Nat) (w:World) (h:w.cell? ⟨b,0,none⟩=some (.iface zAk (.string zA5))) (h1:w.cell? ⟨b,1,none⟩=some (.iface TBy (.string zCb))):
  Calls Tryz.prog 229 #[.slice (some ⟨b,0,none⟩) 2 2] w fun e w'=>e= .returned (.string zJh)/\Below w.heap.size w w':=by
 obtain⟨B,hB⟩:=zB w.heap.size
 have H:=zH h
 have H1:=zH h1
 have HB:=zH hB
 rw[hB]
 clear h h1 hB
 go_enter Tryz.func229,Tryz.ntmps229
 go_wp2
 go_loopw [3,13] (fun ov iv wr=>∃k:Nat,k<=2/\iv= .int .i64 k/\∃p c,ov= .slice p k c/\RowKit.Hid (Kit.Own wr B zAk p k c (([.string zA5,.string zBn]:List Value).take k))/\RowKit.Hid (Below B w wr)) (fun _ iv _=>2-(intOf iv).toNat)
 case atStart=>exact⟨0,by omega,rfl,none,0,rfl,zH (Kit.Own.start _ _ _),zH (Below.refl _ _)⟩
 case round=>
  obtain⟨k,hk,rfl,p,c,rfl,how,hbw⟩:=hrel
  have hz:B<=wr.heap.size:=by have:=hbw.out.size;rw[HB.out]at this;exact this
  obtain rfl|rfl|rfl:k=0\/k=1\/k=2:=by omega
  ·rw[show((0:Nat):Int)=0 from rfl]
   have x0:wr.cell? ⟨b,0,none⟩=some (.iface zAk (.string zA5)):=by rw[hbw.out.cell (p:=⟨b,0,none⟩) (by rw[<-HB.out];exact block_lt_of_cell H.out)];exact H.out
   obtain⟨p1,c1,w1,hr,ho,hg⟩:=Kit.Own.app (ty:=zBf) zL2 (how.out.alloc (.cells #[.string zA5] zAk)) (some ⟨wr.heap.size,0,none⟩) 1 1 [.string zA5] (Kit.zAs wr (.string zA5) zAk) rfl (fun h=>by cases h) (by simp[Value.oneCell']) (by unfold maxLen;omega) (by omega) (by simp;omega)
   have hbk:=(how.out.alloc (.cells #[.string zA5] zAk)).block
   have HO:=zH ho
   have HB2:=zH ((hbw.out.alloc hz (.cells #[.string zA5] zAk)).trans (Kit.zAq hg (by simp;omega) (fun k hk=>hbk k hk)))
   have t1:=qBy zA5
   have t2:=zWk zA5
   have t3:=zWi zA5
   have t4:=zWl zA5
   have t5:=zWj zA5
   clear how hbw ho hg hbk
   go_wp2_with (at_builtin;refine Kit.zAr rfl (.tmp 59) (.tmp 61) zBf rfl rfl rfl hr ?_)
   go_roundw
   case rel=>exact⟨1,by omega,rfl,p1,c1,rfl,HO,HB2⟩
   case measure=>simp only[intOf];omega
  ·rw[show((1:Nat):Int)=1 from rfl]
   have x1:wr.cell? ⟨b,1,none⟩=some (.iface TBy (.string zCb)):=by rw[hbw.out.cell (p:=⟨b,1,none⟩) (by rw[<-HB.out];exact block_lt_of_cell H1.out)];exact H1.out
   have t1:=qEu zCb
   have hne:¬zCb.toList.isEmpty=true:=by rw[Lib.toList_data];decide
   have HH:=zH (qF2 wr)
   have HBW:=zH hbw.out
   have HOW:=zH how.out
   have HZ:=zH hz
   clear how hbw
   go_wp2_with fail
   (with_reducible refine HH.out.mono ?_)
   rintro e w3 ⟨rfl,hb3⟩
   have ow3:=HOW.out.below hb3 (Nat.le_refl _)
   have hz3:B<=w3.heap.size:=Nat.le_trans HZ.out hb3.size
   obtain⟨p1,c1,w4,hr,ho,hg⟩:=Kit.Own.app (ty:=zBf) zL2 (ow3.alloc (.cells #[.string zBn] zAk)) (some ⟨w3.heap.size,0,none⟩) 1 1 [.string zBn] (Kit.zAs w3 (.string zBn) zAk) rfl (fun h=>by cases h) (by simp[Value.oneCell']) (by unfold maxLen;omega) (by omega) (by simp;omega)
   have hbk:=(ow3.alloc (.cells #[.string zBn] zAk)).block
   have HO:=zH ho
   have HB2:=zH (((HBW.out.trans (hb3.mono HZ.out)).alloc hz3 (.cells #[.string zBn] zAk)).trans (Kit.zAq hg (by simp;omega) (fun k hk=>hbk k hk)))
   clear ho hg hbk hb3 ow3 HH HBW HOW x1 t1 hne
   go_wp2_with (at_builtin;refine Kit.zAr rfl (.tmp 26) (.tmp 29) zBf rfl rfl rfl hr ?_)
   go_roundw
   case rel=>exact⟨2,by omega,rfl,p1,c1,rfl,HO,HB2⟩
   case measure=>simp only[intOf];omega
  ·rw[show((2:Nat):Int)=2 from rfl]
   obtain⟨g,rfl,_,hgl,hgc,hc,_⟩:=how.out.at_ (by omega)
   have HJ:=zH (Tryz.strings_Join g 0 c [zA5,zBn] ⟨#[32]⟩ wr (fun j x hx=>by
    match j,hx with
    |0,hx=>
     simp at hx
     subst hx
     rw[Nat.add_zero,hc 0 (by omega)]
     rfl
    |1,hx=>
     simp at hx
     subst hx
     rw[hc 1 (by omega)]
     rfl) hgl (by simp) (by simpa using hgc) (by decide))
   rw[show(⟨(Lib.join ([zA5,zBn].map (·.data.toList)) (⟨#[32]⟩:ByteArray).data.toList).toArray⟩:ByteArray)=⟨#[115,97,121,32,54,49,54,50]⟩from rfl,show([zA5,zBn]:List ByteArray).length=2 from rfl]at HJ
   have hcat:(⟨#[115,97,121,32,54,49,54,50]⟩:ByteArray)++(⟨#[10]⟩:ByteArray)=zJh:=rfl
   have hs1:(⟨#[115,97,121,32,54,49,54,50]⟩:ByteArray).size=8:=rfl
   have hs2:(⟨#[10]⟩:ByteArray).size=1:=rfl
   have HBW:=zH hbw.out
   have HZ:=zH hz
   clear how hbw hc hz
   go_wp2_with fail
   (with_reducible refine HJ.out.mono ?_)
   rintro e w2 ⟨rfl,hb2⟩
   have B2:=zH (HBW.out.trans (hb2.mono HZ.out))
   clear hb2 HJ
   go_wp2
   go_ret
   exact⟨rfl,B2.out⟩
theorem qFg (b:Nat) (w:World) (h:w.cell? ⟨b,0,none⟩=some (.iface zAk (.string tOk))):
  Calls Tryz.prog 173 #[.int .i64 0,.slice (some ⟨b,0,none⟩) 1 1] w fun e w'=>e= .returned (.string zM2)/\Below w.heap.size w w':=by
 have H:=zH (qDc b w h)
 clear h
 go_enter Tryz.func173,Tryz.ntmps173
 go_wp2_with fail
 (with_reducible refine H.out.mono ?_)
 rintro e w2 ⟨rfl,hb2⟩
 go_wp2
 go_ret
 exact⟨rfl,hb2⟩
theorem qC6 (b:Nat) (w:World) (h:w.cell? ⟨b,0,none⟩=some (.iface zAk (.string zA5))) (h1:w.cell? ⟨b,1,none⟩=some (.iface TBy (.string zCb))):
  Calls Tryz.prog 173 #[.int .i64 0,.slice (some ⟨b,0,none⟩) 2 2] w fun e w'=>e= .returned (.string zJh)/\Below w.heap.size w w':=by
 have H:=zH (qAi b w h h1)
 clear h h1
 go_enter Tryz.func173,Tryz.ntmps173
 go_wp2_with fail
 (with_reducible refine H.out.mono ?_)
 rintro e w2 ⟨rfl,hb2⟩
 go_wp2
 go_ret
 exact⟨rfl,hb2⟩
end Sh
namespace Sm
open Go.RowKit Hf Bt Zr Ix Front Wg Ch Sl Sq Us St Tn Bk Rg
theorem zJw (lev:Nat) (h1:1<=lev) (h9:lev<=9) (w:World):Calls Tryz.prog 49 #[.int .i64 (lev:Int)] w fun e w'=>e= .returned (.bool true)/\w'=w:=by
 have j1:(1:Int)<=(lev:Int):=by omega
 have j2:(lev:Int)<=9:=by omega
 go_enter Tryz.func49,Tryz.ntmps49
 go_wp2
 go_ret
 exact⟨rfl,rfl⟩
theorem zY (s:ByteArray) (v:Int) (w:World):
  Calls Tryz.prog 52 #[.string s,.int .i64 v] w fun e w'=>e= .returned (.func (.func 133) #[] #[.pointer (some ⟨w.heap.size,0,none⟩),.pointer (some ⟨w.heap.size+1,0,none⟩)])/\w'=(w.alloc (.cells #[.string s] zAk)).alloc (.cells #[.int .i64 v] 3):=by
 have hmf:∀(fn:Fn) (first cap:Array Value) (w:World),(Instr.makeFunc fn first cap).run Tryz.prog w= .ok (.func fn first cap) w:=fun _ _ _ _=>rfl
 go_enter Tryz.func52,Tryz.ntmps52
 go_wp2
 go_ret
 exact⟨rfl,rfl⟩
theorem zS5 (b b2 lev:Nat) (x:T) (hx:x.length<=100000) (h1:1<=lev) (h9:lev<=9) (hne:b2≠b) (w:World) (hbx:Boxed w b zAk (.string (Rle.bs x))) (hbl:Boxed w b2 3 (.int .i64 (lev:Int))) (hn:(pcs (40*lev) x).length<=10000):
  Calls Tryz.prog 51 #[.func (.func 133) #[] #[.pointer (some ⟨b,0,none⟩),.pointer (some ⟨b2,0,none⟩)]] w fun e w'=>
   ∃p c,e= .returned (.slice p (pcs (40*lev) x).length c)/\Kit.Own w' w.heap.size zAk p (pcs (40*lev) x).length c ((pcs (40*lev) x).map zC7)/\RV b w w':=by
 have H:=zH (zVq b b2 lev x hx h1 h9 hne w hbx hbl hn)
 obtain⟨S,hS⟩:=zB (pcs (40*lev) x)
 rw[hS]at H⊢
 obtain⟨m,hm⟩:=zB S.length
 rw[hm]at H⊢
 clear hbx hbl hn hS hm
 go_enter Tryz.func51,Tryz.ntmps51
 go_wp2_with fail
 (with_reducible refine H.out.mono ?_)
 rintro e w1 ⟨p,c,rfl,h2,h3⟩
 go_wp2
 go_ret
 exact⟨p,c,rfl,h2,h3⟩
theorem zZ5 (lev:Nat) (s:ByteArray) (x:T) (hx:s.data.toList=x) (hl:x.length<=500) (h1:1<=lev) (h9:lev<=9) (w:World):
  Calls Tryz.prog 9 #[.string s,.int .i64 (lev:Int)] w fun e w'=>e= .returned (.tuple #[.string (zCt lev (pcs (40*lev) x)),.int .i64 0])/\Below w.heap.size w w':=by
 obtain⟨B,hB⟩:=zB w.heap.size
 obtain⟨w2,hw2⟩:=zB ((w.alloc (.cells #[.string s] zAk)).alloc (.cells #[.int .i64 (lev:Int)] 3))
 have hz2:w2.heap.size=B+2:=by rw[<-hw2,zA,zA,hB]
 have hb2:Below B w w2:=by rw[<-hw2,<-hB];exact((Below.refl _ _).alloc (Nat.le_refl _) _).alloc (by rw[zA];omega) _
 have hbx:Boxed w2 B zAk (.string (Rle.bs x)):=by
  rw[<-hx,Rle.zJ5,<-hw2,<-hB]
  exact(Lib.alloc_old _ _ _ (by rw[zA];omega)).trans (zAh w _)
 have hbl:Boxed w2 (B+1) 3 (.int .i64 (lev:Int)):=by
  rw[<-hw2,show B+1=(w.alloc (.cells #[.string s] zAk)).heap.size by rw[zA,hB]]
  exact zAh _ _
 have hcnt:=zOh (40*lev) (by omega) x
 have hmem:=zJq (40*lev) (by omega) x
 have HC:=zH (zS5 B (B+1) lev x (by omega) h1 h9 (by omega) w2 hbx hbl (by omega))
 obtain⟨S,hS⟩:=zB (pcs (40*lev) x)
 rw[hS]at HC hcnt hmem⊢
 obtain⟨n,hn⟩:=zB S.length
 rw[hn]at HC hcnt
 have HCF:=zH (zY s (lev:Int) w)
 rw[hB,hw2]at HCF
 have HMY:=zH (zJw lev h1 h9 w)
 have HWR:=zH (fun(p:Option Addr) (c:Nat) (hnc:n<=c) (W:World) (hs:Kit.Src W p (S.map zC7))=>zV5 lev n c p S W h1 h9 hn (by omega) hnc hs hmem)
 obtain⟨t,ht⟩:=zB (zCt lev S)
 rw[ht]at HWR⊢
 have HB2:=zH hb2
 rw[hB]
 clear hw2 hbx hbl hmem hS hn ht hx hb2
 go_enter Tryz.func9,Tryz.ntmps9
 go_wp2_with fail
 (with_reducible refine HMY.out.mono ?_)
 rintro e w1 ⟨rfl,rfl⟩
 go_wp2_with fail
 (with_reducible refine HCF.out.mono ?_)
 rintro e w3 ⟨rfl,rfl⟩
 go_wp2_with fail
 (with_reducible refine HC.out.mono ?_)
 rintro e w4 ⟨p,c,rfl,ho,hrv⟩
 have hnc:n<=c:=by
  rcases Nat.eq_zero_or_pos n with h|h
  ·omega
  ·obtain⟨_,_,_,_,h,_⟩:=ho.at_ h
   exact h
 have HW:=zH (HWR.out p c hnc w4 ho.src)
 have B4:=zH (HB2.out.trans hrv.below)
 have Z4:=zH (show B<=w4.heap.size by have:=hrv.below.size;omega)
 clear ho hrv HC HWR HCF HMY
 go_wp2_with fail
 (with_reducible refine HW.out.mono ?_)
 rintro e w5 ⟨rfl,hb5⟩
 have B5:=zH (B4.out.trans (hb5.mono Z4.out))
 clear hb5 HW
 go_wp2
 go_ret2
 exact⟨rfl,B5.out⟩
end Sm
namespace Sh
open Go.RowKit Hf Bt Zr Ix Front Wg Ch Sl Sq Us St Tn Bk Rg Sm
abbrev TDk:TypeId:=215
abbrev zJc:TypeId:=291
def P1:List (List UInt8):=pcs (40*1) [97,98]
def zC4:ByteArray:=zCt 1 P1
theorem qH0:Arc 1 P1 zC4 P1.length:=by
 have hc:=zOh (40*1) (by omega) [97,98]
 have hm:=zJq (40*1) (by omega) [97,98]
 have hp:=zW3 P1 (fun p hp=>⟨(hm p hp).1,by have:=(hm p hp).2;omega⟩) P1.length
 have hl:P1.length<=1:=by unfold P1;simp at hc⊢;omega
 exact qGl 1 P1 (by omega) (by omega) (by rw[zLr];omega) (by omega) hm
theorem qCb:P1.flatten=[97,98]:=zHv (40*1) (by omega) [97,98]
def DK (w:World) (D:Nat) (a:ByteArray):Prop:=w.heap[D]? =some (.cells #[.string a,.string ⟨#[]⟩,.string ⟨#[]⟩,.slice none 0 0,.int .i64 0,.int .i64 0,.slice none 0 0,.slice none 0 0,.int .i64 0,.bool false] TDk (0,0))
section
variable {w w':World} {D:Nat} {a:ByteArray}
theorem DK.lt (h:DK w D a):D<w.heap.size:=zAd h
theorem DK.below (h:DK w D a) (hb:Below w.heap.size w w'):DK w' D a:=(hb.block D h.lt).trans h
theorem DK.c0 (h:DK w D a):w.cell? ⟨D,0,none⟩=some (.string a):=by unfold DK at h;simp[World.cell?,h]
theorem DK.c9 (h:DK w D a):w.cell? ⟨D,9,none⟩=some (.bool false):=by unfold DK at h;simp[World.cell?,h]
theorem DK.fr (h:DK w D a) (j:Nat):w.frozen? ⟨D,j,none⟩=false:=by unfold DK at h;simp[World.frozen?,h]
theorem DK.set (h:DK w D a) (s:ByteArray):DK (w.setCell ⟨D,0,none⟩ (.string s)) D s:=zA3 0 (.string s) h
end
theorem qFd (D:Nat) (a:ByteArray) (w:World) (h:DK w D a):
  Calls Tryz.prog 211 #[.pointer (some ⟨D,0,none⟩),.agg #[.int .i64 1,.int .i64 0,.int .i64 0,.string zCb]] w fun e w'=>e= .returned (.string zM2)/\DK w' D zC4/\Upd w w' D:=by
 obtain⟨w1,hw1⟩:=zB (w.alloc (.cells #[.int .i64 1,.int .i64 0,.int .i64 0,.string zCb] zJc))
 have hb1:Below w.heap.size w w1:=by rw[<-hw1];exact(Below.refl _ _).alloc (Nat.le_refl _) _
 have HPK:=zH (show Calls Tryz.prog 9 #[.string zCb,.int .i64 1] w1 fun e w'=>e= .returned (.tuple #[.string zC4,.int .i64 0])/\Below w1.heap.size w1 w' from zZ5 1 zCb [97,98] rfl (by simp) (by omega) (by omega) w1)
 have HW:=zH hw1
 have K1:=zH (h.below hb1)
 have U1:=zH (Upd.of_below hb1 (Nat.le_of_lt h.lt))
 clear hb1 h hw1
 obtain⟨A1,hA1⟩:=zB zC4
 rw[hA1]at HPK⊢
 go_enter Tryz.func211,Tryz.ntmps211
 go_wp2_with fail
 rw[show w.alloc (.cells #[.int .i64 1,.int .i64 0,.int .i64 0,.string zCb] zJc)=w1 from HW.out]
 (with_reducible refine HPK.out.mono ?_)
 rintro e w2 ⟨rfl,hb2⟩
 have K2:=K1.out.below hb2
 have c0:=K2.c0
 have f0:=K2.fr 0
 have K3:=K2.set A1
 have U3:=(U1.out.trans (Upd.of_below hb2 (Nat.le_of_lt K1.out.lt))).trans (Upd.set (w:=w2) (K:=D) (i:=0) (v:= .string A1))
 obtain⟨w3,hw3⟩:=zB (w2.setCell ⟨D,0,none⟩ (.string A1))
 rw[hw3]at K3 U3
 obtain⟨w4,hw4⟩:=zB (w3.alloc (.cells #[.iface zAk (.string tOk)] 20))
 have hb4:Below w3.heap.size w3 w4:=by rw[<-hw4];exact(Below.refl _ _).alloc (Nat.le_refl _) _
 have z4:w4.heap[w3.heap.size]? =some (.cells #[.iface zAk (.string tOk)] 20 (0,0)):=by rw[<-hw4];exact zAh w3 _
 have HOR:=zH (qFg w3.heap.size w4 (by simp[World.cell?,z4]))
 have K4:=zH (K3.below hb4)
 have U4:=zH (U3.trans (Upd.of_below hb4 (Nat.le_of_lt K3.lt)))
 clear hb2 K2 HPK K1 U1 K3 U3 hb4 z4
 go_wp2_with fail
 (with_reducible refine HOR.out.mono ?_)
 rintro e w5 ⟨rfl,hb5⟩
 have K5:=zH (K4.out.below hb5)
 have U5:=zH (U4.out.trans (Upd.of_below hb5 (Nat.le_of_lt K4.out.lt)))
 clear hb5
 go_wp2
 go_ret
 exact⟨rfl,K5.out,U5.out⟩
theorem qG5 (D:Nat) (n0 n1 n2:Int) (s:ByteArray) (w:World) (h:DK w D zC4):
  Calls Tryz.prog 216 #[.pointer (some ⟨D,0,none⟩),.agg #[.int .i64 n0,.int .i64 n1,.int .i64 n2,.string s]] w fun e w'=>e= .returned (.string zJh)/\DK w' D zC4/\Upd w w' D:=by
 obtain⟨w1,hw1⟩:=zB (w.alloc (.cells #[.int .i64 n0,.int .i64 n1,.int .i64 n2,.string s] zJc))
 have hb1:Below w.heap.size w w1:=by rw[<-hw1];exact(Below.refl _ _).alloc (Nat.le_refl _) _
 have HRD:=zH (show Calls Tryz.prog 14 #[.string zC4] w1 fun e w'=>e= .returned (.tuple #[.string zCb,.int .i64 0])/\Below w1.heap.size w1 w' from by
  have h:=zZq 1 P1.length P1 zC4 qH0 (by rw[qCb];simp) w1
  rw[qCb]at h
  exact h)
 have HW:=zH hw1
 have K1:=zH (h.below hb1)
 have U1:=zH (Upd.of_below hb1 (Nat.le_of_lt h.lt))
 clear hb1 h hw1
 obtain⟨A1,hA1⟩:=zB zC4
 rw[hA1]at HRD K1⊢
 have c0:=K1.out.c0
 go_enter Tryz.func216,Tryz.ntmps216
 have hw1:=HW.out
 go_wp2_with fail
 clear hw1
 (with_reducible refine HRD.out.mono ?_)
 rintro e w2 ⟨rfl,hb2⟩
 have K3:=K1.out.below hb2
 have U3:=U1.out.trans (Upd.of_below hb2 (Nat.le_of_lt K1.out.lt))
 obtain⟨w4,hw4⟩:=zB (w2.alloc (.cells #[.iface zAk (.string zA5),.iface TBy (.string zCb)] 20))
 have hb4:Below w2.heap.size w2 w4:=by rw[<-hw4];exact(Below.refl _ _).alloc (Nat.le_refl _) _
 have z4:w4.heap[w2.heap.size]? =some (.cells #[.iface zAk (.string zA5),.iface TBy (.string zCb)] 20 (0,0)):=by rw[<-hw4];exact zAh w2 _
 have HOR:=zH (qC6 w2.heap.size w4 (by simp[World.cell?,z4]) (by simp[World.cell?,z4]))
 have K4:=zH (K3.below hb4)
 have U4:=zH (U3.trans (Upd.of_below hb4 (Nat.le_of_lt K3.lt)))
 clear hb2 HRD K1 U1 K3 U3 hb4 z4 c0
 go_wp2_with fail
 (with_reducible refine HOR.out.mono ?_)
 rintro e w5 ⟨rfl,hb5⟩
 have K5:=zH (K4.out.below hb5)
 have U5:=zH (U4.out.trans (Upd.of_below hb5 (Nat.le_of_lt K4.out.lt)))
 clear hb5
 go_wp2
 go_ret
 exact⟨rfl,K5.out,U5.out⟩
end Sh
namespace Sh
open Go.RowKit Hf Bt Zr Ix Front Wg Ch Sl Sq Us St Tn Bk Rg Sm
def AG (w:World) (A:Nat) (n0 n1 n2:Int) (s:ByteArray):Prop:=w.heap[A]? =some (.cells #[.int .i64 n0,.int .i64 n1,.int .i64 n2,.string s] zJc (0,0))
theorem AG.lt {w:World} {A:Nat} {n0 n1 n2:Int} {s:ByteArray} (h:AG w A n0 n1 n2 s):A<w.heap.size:=zAd h
theorem qEs (A:Nat) (n0 n1 n2:Int) (s:ByteArray) (w:World) (h:AG w A n0 n1 n2 s):
  Calls Tryz.prog 172 #[.pointer (some ⟨A,0,none⟩),.int .i64 0,.int .u8 110,.string ⟨#[49]⟩] w fun e w'=>e= .returned (.bool true)/\AG w' A 1 n1 n2 s/\Upd w w' A:=by
 have HAT:=zH (show Calls Tryz.prog 226 #[.string ⟨#[49]⟩] w fun e w'=>e= .returned (.tuple #[.int .i64 1,.nilIface])/\Below w.heap.size w w' from(Tryz.strconv_Atoi ⟨#[49]⟩ 1 (by decide) (by decide) w).mono (fun e w' h=>⟨h.1,by obtain⟨_,t,rfl⟩:=h;exact Joins.below_bytesWorld _ _ _ _ (Nat.le_refl _)⟩))
 have HIT:=zH (fun(w:World)=>show Calls Tryz.prog 227 #[.int .i64 ((1:Nat):Int)] w fun e w'=>e= .returned (.string ⟨#[49]⟩)/\w'=w from by
  have h:=Tryz.strconv_Itoa_small 1 (by omega) w
  rw[show(⟨(Lib.decDigits 1).toArray⟩:ByteArray)=⟨#[49]⟩from by first|kernel_rfl|(unfold Lib.decDigits;rfl)|(unfold Lib.decDigits;decide)]at h
  exact h)
 rw[show((1:Nat):Int)=1 from rfl]at HIT
 have H:=zH h
 clear h
 go_enter Tryz.func172,Tryz.ntmps172
 go_wp2_with fail
 (with_reducible refine HAT.out.mono ?_)
 rintro e w1 ⟨rfl,hb1⟩
 have h1:AG w1 A n0 n1 n2 s:=(hb1.block A H.out.lt).trans H.out
 obtain⟨⟨c0,c1,c2,c3⟩,f0,f1,f2,f3⟩:=zDf h1
 have H2:=zH (show AG (w1.setCell ⟨A,0,none⟩ (.int .i64 1)) A 1 n1 n2 s from zA3 0 _ h1)
 have U2:=zH ((Upd.of_below hb1 (Nat.le_of_lt H.out.lt)).trans (Upd.set (w:=w1) (K:=A) (i:=0) (v:= .int .i64 1)))
 clear h1 hb1 HAT c1 c2 c3 f1 f2 f3
 go_wp2_with fail
 (with_reducible refine(HIT.out _).mono ?_)
 rintro e w3 ⟨rfl,rfl⟩
 go_wp2
 go_ret
 exact⟨rfl,H2.out,U2.out⟩
theorem qEt (A:Nat) (n0 n1 n2:Int) (s:ByteArray) (w:World) (h:AG w A n0 n1 n2 s):
  Calls Tryz.prog 172 #[.pointer (some ⟨A,0,none⟩),.int .i64 1,.int .u8 104,.string zBn] w fun e w'=>e= .returned (.bool true)/\AG w' A n0 n1 n2 zCb/\Upd w w' A:=by
 have HUN:=zH (zWb w)
 have hne:¬zBn.toList.isEmpty=true:=by rw[Lib.toList_data];decide
 have H:=zH h
 clear h
 go_enter Tryz.func172,Tryz.ntmps172
 go_wp2_with fail
 (with_reducible refine HUN.out.mono ?_)
 rintro e w1 ⟨rfl,hb1⟩
 have h1:AG w1 A n0 n1 n2 s:=(hb1.block A H.out.lt).trans H.out
 obtain⟨⟨c0,c1,c2,c3⟩,f0,f1,f2,f3⟩:=zDf h1
 have H2:=zH (show AG (w1.setCell ⟨A,3,none⟩ (.string zCb)) A n0 n1 n2 zCb from zA3 3 _ h1)
 have U2:=zH ((Upd.of_below hb1 (Nat.le_of_lt H.out.lt)).trans (Upd.set (w:=w1) (K:=A) (i:=3) (v:= .string zCb)))
 clear h1 hb1 HUN c1 c2 c0 f1 f2 f0
 go_wp2
 go_ret
 exact⟨rfl,H2.out,U2.out⟩
end Sh
end Go.Proofs.YtppnakkaljbmbaaGreatDoor
