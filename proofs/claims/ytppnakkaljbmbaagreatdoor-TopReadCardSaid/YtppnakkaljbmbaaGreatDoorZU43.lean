/- Steps of a proof; no condition beyond what each states. -/
import Derived.Test.YtppnakkaljbmbaaGreatDoorZU42
set_option linter.unusedVariables false
set_option linter.unusedSimpArgs false
set_option maxRecDepth 100000
set_option maxHeartbeats 8000000
namespace Go.Proofs.YtppnakkaljbmbaaGreatDoor
namespace Sh
open Go.RowKit Hf Bt Zr Ix Front Wg Ch Sl Sq Us St Tn Bk Rg Sm
def FRS (D B:Nat) (s21 s24 s25 s19 s26 s27 s6 s7:Value):Act:=⟨#[(.pointer (some ⟨D,0,none⟩)),(.string zA5),undef,undef,(.string ⟨#[]⟩),(.slice (some ⟨B,0,none⟩) 1 1),s6,s7,undef,undef,(.string zA5),(.bool false),(.bool false),(.string zA5),(.int .u8 115),(.bool false),(.bool false),(.string zA5),(.slice (some ⟨B,0,none⟩) 1 1),s19,(.pointer (some ⟨D,0,none⟩)),s21,(.slice (some ⟨B,0,none⟩) 1 1),(.pointer (some ⟨B,0,none⟩)),s24,s25,s26,s27,undef,undef,undef,undef,undef,undef,undef,undef,undef,undef,undef,undef,undef,undef,undef,undef,undef,undef,undef,undef,undef,undef,undef,undef,undef,undef,undef,undef,undef,undef,undef,undef,undef,undef,undef,undef,undef,undef,undef,undef,undef,undef,undef,undef,undef,undef,undef,undef,undef,undef],[]⟩
theorem qG (D:Nat) (w:World) (h:DK w D zC4) (hm:HM w):
  Calls Tryz.prog 121 #[.pointer (some ⟨D,0,none⟩),.string zA5] w fun e w'=>e= .returned (.string zJh)/\DK w' D zC4/\Upd w w' D:=by
 obtain⟨B,hB⟩:=zB w.heap.size
 obtain⟨w1,hw1⟩:=zB (w.alloc (.cells #[.string zA5] zAk))
 have hb1:Below w.heap.size w w1:=by rw[<-hw1];exact(Below.refl _ _).alloc (Nat.le_refl _) _
 have z1:w1.heap[B]? =some (.cells #[.string zA5] zAk (0,0)):=by rw[<-hw1,<-hB];exact zAh w _
 have HSP:=zH (zWs w hm)
 have HW:=zH hw1
 have Z1:=zH z1
 have K1:=zH (h.below hb1)
 have U1:=zH (Upd.of_below hb1 (Nat.le_of_lt h.lt))
 rw[hw1,hB]at HSP
 have HLT:=zH (show B<w1.heap.size by rw[<-hB];exact Nat.lt_of_lt_of_le (by rw[<-hw1,zA];omega) (Nat.le_refl _))
 clear hb1 h hw1 z1 hm
 go_enter Tryz.func121,Tryz.ntmps121
 go_wp2_with fail
 (with_reducible refine HSP.out.mono ?_)
 rintro e w1 ⟨rfl,rfl⟩
 go_wp2_with fail
 refine zS [] (fun _=>True) MsD 12<|zu 0 20 (zP D 0)<|zu 2 22 (.slice (some ⟨B,0,none⟩) 1 1)<|zu 3 23 (zP B 0)<| ?_
 refine Kit.At_.cast (a':=FRS D B undef undef undef undef undef undef undef undef) ?_ (by kernel_rfl)
 refine Kit.qAo (fun L a wv=>∃s21 s24 s25 s19 s26 s27 s6 s7,a=FRS D B s21 s24 s25 s19 s26 s27 s6 s7/\IR D w1.heap.size [115,97,121] [] (met 216 D) false w1 L wv s21 s24 s25 s19 s26 s27 s6 s7) (by kernel_rfl) ?_ ?_ 9 LD _ _ ⟨_,_,_,_,_,_,_,_,rfl,zRb w1⟩ (by kernel_rfl)
 ·intro L a wv i m hI hm hb hdep
  obtain⟨s21,s24,s25,s19,s26,s27,s6,s7,rfl,h⟩:=hI
  have hi:i<12:=(List.getElem?_eq_some_iff.1 hm).1
  have hi0:LD.testBit i=false:=by
   cases e:LD.testBit i with
   |false=>rfl
   |true=>rw[h.pre i e]at hb;cases hb
  have hr:=zQj i hi hi0
  clear hi hi0
  simp only[zL8,List.mem_cons,List.not_mem_nil,or_false]at hr
  rcases hr with rfl|rfl|rfl|rfl|rfl|rfl|rfl|rfl|rfl
  ·obtain rfl:(1:Nat)=m:=Option.some.inj hm
   refine⟨_,rfl,by kernel_rfl,zHy 171 #[.pointer (some ⟨D,0,none⟩)] (by kernel_rfl) (zQa D wv) ?_⟩
   rintro e w2 ⟨M,es,c,rfl,hM,hm2,hk2,hb2⟩
   exact⟨_,rfl,.inr (.inr trivial),.map (some M),s24,s25,s19,s26,s27,s6,s7,by kernel_rfl,ir1 h hb2 (Nat.le_trans (Nat.le_trans h.le h.bl.size) hM) hm2 hk2⟩
  ·obtain rfl:(8:Nat)=m:=Option.some.inj hm
   have hc:wv.cell? ⟨B,0,none⟩=some (.string zA5):=by simp[World.cell?,(h.bl.block B HLT.out).trans Z1.out]
   refine⟨_,rfl,by kernel_rfl,zA9 (str [115,97,121]) (Kit.zM7 (t:=9) (x:= .tmp 23) rfl (by kernel_rfl) (Kit.zAg (show _=some (str [115,97,121])from hc) (by kernel_rfl) (by kernel_rfl))) ⟨.inr (.inr trivial),s21,str [115,97,121],s25,s19,s26,s27,s6,s7,by kernel_rfl,ir4 h⟩⟩
  ·obtain rfl:(18:Nat)=m:=Option.some.inj hm
   obtain⟨M,es,c,rfl,hM,hm2,hk2⟩:=h.i1 (hdep 1 (by kernel_rfl)) hb
   obtain rfl:=h.i4 (hdep 4 (by kernel_rfl))
   refine⟨_,rfl,by kernel_rfl,zA9 (.tuple #[row [] (met 216 D) false,.bool true]) (look_eq (t:=zBt) (x:= .tmp 21) (y:= .tmp 24) rfl (by kernel_rfl) (by kernel_rfl) (zQ5 (i:=7) hm2 hk2 (by decide) rfl rfl)) ⟨.inr (.inr trivial),.map (some M),str [115,97,121],.tuple #[row [] (met 216 D) false,.bool true],s19,s26,s27,s6,s7,by kernel_rfl,ir5 h⟩⟩
  ·obtain rfl:(32:Nat)=m:=Option.some.inj hm
   obtain rfl:=h.i5 (hdep 5 (by kernel_rfl))
   refine⟨_,rfl,by kernel_rfl,zA9 (.tuple #[row [] (met 216 D) false,.bool true]) (by kernel_rfl) ⟨.inr (.inr trivial),s21,s24,.tuple #[row [] (met 216 D) false,.bool true],.tuple #[row [] (met 216 D) false,.bool true],s26,s27,s6,s7,by kernel_rfl,ir6 h⟩⟩
  ·obtain rfl:(64:Nat)=m:=Option.some.inj hm
   obtain rfl:=h.i6 (hdep 6 (by kernel_rfl))
   refine⟨_,rfl,by kernel_rfl,zA9 (row [] (met 216 D) false) (by kernel_rfl) ⟨.inr (.inr trivial),s21,s24,s25,.tuple #[row [] (met 216 D) false,.bool true],row [] (met 216 D) false,s27,s6,s7,by kernel_rfl,ir7 h⟩⟩
  ·obtain rfl:(64:Nat)=m:=Option.some.inj hm
   obtain rfl:=h.i6 (hdep 6 (by kernel_rfl))
   refine⟨_,rfl,by kernel_rfl,zA9 (.bool true) (by kernel_rfl) ⟨.inr (.inr trivial),s21,s24,s25,.tuple #[row [] (met 216 D) false,.bool true],s26,.bool true,s6,s7,by kernel_rfl,ir8 h⟩⟩
  ·obtain rfl:(0:Nat)=m:=Option.some.inj hm
   refine⟨_,rfl,by kernel_rfl,zA9 (w':=wv.alloc (.cells #[.string ⟨#[]⟩,.nilFunc,.bool false] zEe)) (.pointer (some ⟨wv.heap.size,0,none⟩)) (by kernel_rfl) ⟨.inr (.inr trivial),s21,s24,s25,s19,s26,s27,.pointer (some ⟨wv.heap.size,0,none⟩),s7,by kernel_rfl,ir9 h hb⟩⟩
  ·obtain rfl:(767:Nat)=m:=Option.some.inj hm
   obtain⟨A,rfl,hA,hz0,_⟩:=h.i9 (hdep 9 (by kernel_rfl))
   obtain rfl:=h.i7 (hdep 7 (by kernel_rfl))
   obtain⟨w2,hst,hz2,hb2⟩:=zWq (u':=str []) (v':=met 216 D) (x':= .bool false) (hz0 hb) (by simp[Value.oneCell',str,met])
   refine⟨_,rfl,by kernel_rfl,zQ1 (Kit.zHa (t:=zEe) (x:= .tmp 6) (y:= .tmp 26) rfl (by kernel_rfl) (by kernel_rfl) hst) ⟨.inr (.inr trivial),s21,s24,s25,s19,row [] (met 216 D) false,s27,.pointer (some ⟨A,0,none⟩),s7,by kernel_rfl,qFy h (hdep 9 (by kernel_rfl)) (hdep 5 (by kernel_rfl)) hA (hb2 A (Nat.le_refl _)) hz2⟩⟩
  ·obtain rfl:(2047:Nat)=m:=Option.some.inj hm
   obtain rfl:=h.i8 (hdep 8 (by kernel_rfl))
   refine⟨_,rfl,by kernel_rfl,zA9 (.bool true) (by kernel_rfl) ⟨.inr (.inr trivial),s21,s24,s25,s19,s26,.bool true,s6,.bool true,by kernel_rfl,qFx h⟩⟩
 intro L ac wr hI hall
 obtain⟨s21,s24,s25,s19,s26,s27,s6,s7,rfl,h⟩:=hI
 obtain⟨A,rfl,rfl,rfl,rfl,rfl,rfl,rfl,hA,hz,hbl⟩:=zXq h (fun i hi=>hall i hi)
 clear h hall
 have Z2:=zH ((hbl.block B HLT.out).trans Z1.out)
 have K2:=zH (K1.out.below hbl)
 have U2:=zH (U1.out.trans (Upd.of_below hbl (Nat.le_of_lt K1.out.lt)))
 have HDA:=zH (show D<A from Nat.lt_of_lt_of_le K1.out.lt hA)
 have HBA:=zH (show B<A from Nat.lt_of_lt_of_le HLT.out hA)
 have RA:=zH hz
 obtain⟨c0,c1,c2,f0,f1,f2⟩:=zBi hz
 simp only[str]at c0
 have C1:=zH c1
 have C2:=zH c2
 clear c1 c2 f0 f1 f2 hz hbl Z1 K1 U1 HLT HSP HW hA
 obtain⟨G,hG⟩:=zB wr.heap.size
 obtain⟨w3,hw3⟩:=zB (wr.alloc (.cells #[.int .i64 0,.int .i64 0,.int .i64 0,.string ⟨#[]⟩] zJc))
 have hb3:Below wr.heap.size wr w3:=by rw[<-hw3];exact(Below.refl _ _).alloc (Nat.le_refl _) _
 have G3:=zH (show AG w3 G 0 0 0 ⟨#[]⟩by rw[<-hw3,<-hG];exact zAh wr _)
 have K3:=zH (K2.out.below hb3)
 have U3:=zH (U2.out.trans (Upd.of_below hb3 (Nat.le_of_lt K2.out.lt)))
 have Z3:=zH (zAb Z2.out hb3)
 have R3:=zH (zAb RA.out hb3)
 have HAG:=zH (show A<G by rw[<-hG];exact zAd RA.out)
 have HW3:=zH hw3
 have HG:=zH hG
 clear hG hw3 hb3 K2 U2 Z2 RA C1 C2
 simp only[FRS]
 go_wp2_with fail
 clear c0
 rw[HG.out,show wr.alloc (.cells #[.int .i64 0,.int .i64 0,.int .i64 0,.string ⟨#[]⟩] zJc)=w3 from HW3.out]
 go_loopw [7,9] (fun ov iv wx=>∃k:Nat,k<=0/\ov= .bool true/\iv= .int .i64 k/\RowKit.Hid (AK wx G k)/\RowKit.Hid (Upd w3 wx G)) (fun _ iv _=>0-(intOf iv).toNat)
 case atStart=>exact⟨0,by omega,rfl,rfl,zH G3.out,zH ⟨fun _ _ _=>rfl,Below.refl _ _⟩⟩
 case round=>
  obtain⟨k,hk,rfl,rfl,hag,hup⟩:=hrel
  have hz3:=zAd G3.out
  have RX:=zH ((hup.out.old A (by have:=HAG.out;omega) (by have:=HAG.out;omega)).trans R3.out)
  have ZX:=zH ((hup.out.old B (by have:=HAG.out;have:=HBA.out;omega) (by have:=HAG.out;have:=HBA.out;omega)).trans Z3.out)
  have c0:wr.cell? ⟨A,0,none⟩=some (.string ⟨#[]⟩):=by simp[World.cell?,RX.out,str]
  clear hz3
  obtain rfl:k=0:=by omega
  ·rw[show((0:Nat):Int)=0 from rfl]
   have c1:wr.cell? ⟨A,1,none⟩=some (.func (.func 216) #[.pointer (some ⟨D,0,none⟩)] #[]):=(zBi RX.out).2.1
   have c2:wr.cell? ⟨A,2,none⟩=some (.bool false):=(zBi RX.out).2.2.1
   have hD3:D<w3.heap.size:=K3.out.lt
   have KX:=zH (show DK wr D zC4 from(hup.out.old D hD3 (by have:=HDA.out;have:=HAG.out;omega)).trans K3.out)
   have c9:=KX.out.c9
   have f9:=KX.out.fr 9
   have UX:=zH (show Upd w wr D from⟨fun k h1 h2=>(hup.out.old k (Nat.lt_of_lt_of_le h1 U3.out.below.size) (by have:=HBA.out;have:=HAG.out;omega)).trans (U3.out.old k h1 h2),U3.out.below.trans (hup.out.below.mono (by have:=HDA.out;have:=HAG.out;omega))⟩)
   have HPM:=zH (qG5 D 0 0 0 ⟨#[]⟩ wr KX.out)
   have ag:AG wr G 0 0 0 ⟨#[]⟩:=hag.out
   obtain⟨⟨g0,g1,g2,g3⟩,q0,q1,q2,q3⟩:=zDf ag
   clear hag hup ag KX q0 q1 q2 q3
   go_wp2_with fail
   (with_reducible refine HPM.out.mono ?_)
   rintro e w6 ⟨rfl,k6,u6⟩
   have K6:=zH k6
   have U6:=zH (UX.out.trans u6)
   clear k6 u6
   go_wp2
   go_ret
   exact⟨rfl,K6.out,U6.out⟩
end Sh
namespace Sh
open Go.RowKit Hf Bt Zr Ix Front Wg Ch Sl Sq Us St Tn Bk Rg Sm
variable {w w':World} {B:Nat}
abbrev qHs:ByteArray:=⟨#[111,107,10,115,97,121,32,54,49,54,50,10]⟩
theorem zU {b D:Nat} {l:List UInt8} {a:ByteArray} (h:Rle.Bld w B b l) (hd:DK w D a) (hu:Upd w w' D):Rle.Bld w' B b l:=by
 refine h.kept (row:=some D) ⟨hu.below.os,hu.below.tape,hu.below.output,hu.below.size,fun k hk hne=>hu.old k hk (fun e=>hne (by rw[e]))⟩ ?_
 intro r hr
 obtain rfl:=Option.some.inj hr
 refine⟨_,hd,fun c fz e=> ?_,fun c fz e=> ?_⟩
 ·injection e with _ e2 _
  exact absurd e2 (by decide)
 ·injection e with _ e2 _
  exact absurd e2 (by decide)
theorem HM.below (h:HM w) (hb:Below B w w') (h0:0<B):HM w':=by
 obtain⟨m,h⟩:=h
 exact⟨m,by rw[hb.cell (p:=⟨0,0,none⟩) h0];exact h⟩
theorem HM.lt (h:HM w):0<w.heap.size:=by
 obtain⟨m,h⟩:=h
 exact block_lt_of_cell h
structure RI (B D b k:Nat) (w:World):Prop where
 dk:DK w D (if k=0 then⟨#[]⟩else zC4)
 bl:Rle.Bld w b b (if k=0 then[]else if k=1 then[111,107,10]else[111,107,10,115,97,121,32,54,49,54,50,10])
 ls:w.heap[B]? =some (.cells #[.string zE1,.string zE0,.string ⟨#[]⟩] zAk (0,0))
 hm:HM w
 le:b<=w.heap.size
theorem qCu (w:World) (hm:HM w):Calls Tryz.prog 43 #[.string zPl] w fun e w'=>e= .returned (.tuple #[.string qHs,.int .i64 0])/\Below w.heap.size w w':=by
 obtain⟨B,hB⟩:=zB w.heap.size
 obtain⟨w1,hw1⟩:=zB (w.alloc (.cells #[.string zE1,.string zE0,.string ⟨#[]⟩] zAk))
 obtain⟨D,hD⟩:=zB w1.heap.size
 obtain⟨w2,hw2⟩:=zB (w1.alloc (.cells #[.string ⟨#[]⟩,.string ⟨#[]⟩,.string ⟨#[]⟩,.slice none 0 0,.int .i64 0,.int .i64 0,.slice none 0 0,.slice none 0 0,.int .i64 0,.bool false] TDk))
 obtain⟨b,hb⟩:=zB w2.heap.size
 obtain⟨w3,hw3⟩:=zB (w2.alloc (.cells #[.pointer none,.slice none 0 0] Rle.TB))
 have z1:D=B+1:=by rw[<-hD,<-hw1,zA,hB]
 have z2:b=B+2:=by rw[<-hb,<-hw2,zA,hD,z1]
 have z3:w3.heap.size=B+3:=by rw[<-hw3,zA,hb,z2]
 have b1:Below B w w1:=by rw[<-hw1,<-hB];exact(Below.refl _ _).alloc (Nat.le_refl _) _
 have b2:Below D w1 w2:=by rw[<-hw2,<-hD];exact(Below.refl _ _).alloc (Nat.le_refl _) _
 have b3:Below b w2 w3:=by rw[<-hw3,<-hb];exact(Below.refl _ _).alloc (Nat.le_refl _) _
 have hl1:w1.heap[B]? =some (.cells #[.string zE1,.string zE0,.string ⟨#[]⟩] zAk (0,0)):=by rw[<-hw1,<-hB];exact zAh w _
 have hd2:DK w2 D ⟨#[]⟩:=by rw[<-hw2,<-hD];exact zAh w1 _
 have h0:0<B:=by rw[<-hB];exact hm.lt
 have RI0:=zH (show RI B D b 0 w3 from⟨(b3.block D (by omega)).trans hd2,by rw[<-hw3,<-hb];exact Rle.Bld.new w2,(b3.block B (by omega)).trans ((b2.block B (by omega)).trans hl1),((hm.below b1 h0).below b2 (by omega)).below b3 (by omega),by omega⟩)
 have BL:=zH (show Below B w w3 from b1.trans ((b2.mono (by omega)).trans (b3.mono (by omega))))
 have HSA:=zH (zVv w hm)
 rw[hB,hw1]at HSA
 have HL1:=zBi hl1
 have c2:=HL1.2.2.1
 have HW2:=zH hw2
 have HW3:=zH hw3
 have HD:=zH hD
 have HB:=zH hb
 have HZ:=zH (And.intro z1 (And.intro z2 h0))
 rw[hB]
 clear hw1 hw2 hw3 z1 z2 z3 b1 b2 b3 hl1 hd2 h0 hm HL1 hB hD hb
 go_enter Tryz.func43,Tryz.ntmps43
 go_wp2_with fail
 (with_reducible refine HSA.out.mono ?_)
 rintro e w1 ⟨rfl,rfl⟩
 go_wp2_with fail
 clear c2
 rw[HD.out,show w1.alloc (.cells #[.string ⟨#[]⟩,.string ⟨#[]⟩,.string ⟨#[]⟩,.slice none 0 0,.int .i64 0,.int .i64 0,.slice none 0 0,.slice none 0 0,.int .i64 0,.bool false] TDk)=w2 from HW2.out,show D+1=b from(by have:=HZ.out;omega),show w2.alloc (.cells #[.pointer none,.slice none 0 0] Rle.TB)=w3 from HW3.out]
 go_loopw [33] (fun iv wr=>∃k:Nat,k<=2/\iv= .int .i64 k/\RowKit.Hid (RI B D b k wr)/\RowKit.Hid (Below B w wr)) (fun iv _=>2-(intOf iv).toNat)
 case atStart=>exact⟨0,by omega,rfl,RI0,BL⟩
 case round=>
  clear RI0 BL
  obtain⟨k,hk,rfl,hri,hbw⟩:=hrel
  obtain⟨l0,l1,_⟩:=zBi hri.out.ls
  obtain rfl|rfl|rfl:k=0\/k=1\/k=2:=by omega
  ·rw[show((0:Nat):Int)=0 from rfl]
   go_wp2_with fail
   (with_reducible refine(zWc wr).mono ?_)
   rintro e wr1 ⟨rfl,rfl⟩
   have HDO:=zH (qD7 D _ wr1 hri.out.dk hri.out.hm)
   clear l0 l1
   go_wp2_with fail
   (with_reducible refine HDO.out.mono ?_)
   rintro e w4 ⟨rfl,k4,u4⟩
   have hBD:=HZ.out
   have K4:=zH k4
   have B4:=zH (zU hri.out.bl hri.out.dk u4)
   have L4:=zH ((u4.old B (by have:=zAd hri.out.ls;omega) (by omega)).trans hri.out.ls)
   have M4:=zH (hri.out.hm.below u4.below (by omega))
   have S4:=zH (Nat.le_trans hri.out.le u4.below.size)
   have BW4:=zH (hbw.out.trans (u4.below.mono (by omega)))
   have HWS:=zH (Rle.zB8 b b [] zM2 w4 B4.out (by decide) S4.out)
   clear k4 u4 hri hbw HDO hBD
   go_wp2_with fail
   (with_reducible refine HWS.out.mono ?_)
   rintro e w5 ⟨rfl,b5,hb5,_,hs5⟩
   have hBD:=HZ.out
   have RI5:=zH (show RI B D b 1 w5 from⟨(hb5.block D (by omega)).trans K4.out,b5,(hb5.block B (by omega)).trans L4.out,M4.out.below hb5 (by omega),Nat.le_trans S4.out hs5⟩)
   have BW5:=zH (BW4.out.trans (hb5.mono (by omega)))
   clear b5 hb5 hs5 hBD
   go_wp2
   go_roundw
   case rel=>exact⟨1,by omega,rfl,RI5,BW5⟩
   case measure=>simp only[intOf];omega
  ·rw[show((1:Nat):Int)=1 from rfl]
   go_wp2_with fail
   (with_reducible refine(zY6 wr).mono ?_)
   rintro e wr1 ⟨rfl,rfl⟩
   have HDO:=zH (qG D wr1 hri.out.dk hri.out.hm)
   clear l0 l1
   go_wp2_with fail
   (with_reducible refine HDO.out.mono ?_)
   rintro e w4 ⟨rfl,k4,u4⟩
   have hBD:=HZ.out
   have K4:=zH k4
   have B4:=zH (zU hri.out.bl hri.out.dk u4)
   have L4:=zH ((u4.old B (by have:=zAd hri.out.ls;omega) (by omega)).trans hri.out.ls)
   have M4:=zH (hri.out.hm.below u4.below (by omega))
   have S4:=zH (Nat.le_trans hri.out.le u4.below.size)
   have BW4:=zH (hbw.out.trans (u4.below.mono (by omega)))
   have HWS:=zH (Rle.zB8 b b [111,107,10] zJh w4 B4.out (by decide) S4.out)
   clear k4 u4 hri hbw HDO hBD
   go_wp2_with fail
   (with_reducible refine HWS.out.mono ?_)
   rintro e w5 ⟨rfl,b5,hb5,_,hs5⟩
   have hBD:=HZ.out
   have RI5:=zH (show RI B D b 2 w5 from⟨(hb5.block D (by omega)).trans K4.out,b5,(hb5.block B (by omega)).trans L4.out,M4.out.below hb5 (by omega),Nat.le_trans S4.out hs5⟩)
   have BW5:=zH (BW4.out.trans (hb5.mono (by omega)))
   clear b5 hb5 hs5 hBD
   go_wp2
   go_roundw
   case rel=>exact⟨2,by omega,rfl,RI5,BW5⟩
   case measure=>simp only[intOf];omega
  ·rw[show((2:Nat):Int)=2 from rfl]
   have HST:=zH (Rle.zD0 b b [111,107,10,115,97,121,32,54,49,54,50,10] wr hri.out.bl hri.out.le)
   clear l0 l1 hri
   go_wp2_with fail
   (with_reducible refine HST.out.mono ?_)
   rintro e w7 ⟨rfl,hb7,_⟩
   have BW7:=zH (hbw.out.trans (hb7.mono (by have:=HZ.out;omega)))
   clear hb7 hbw
   go_wp2
   go_ret2
   exact⟨rfl,BW7.out⟩
end Sh
namespace Al
open Go.RowKit Hf Bt Zr Ix Front Wg Ch Sl Sq Us St Tn Bk Rg Sm Sh
abbrev zDh:Value:= .int .i64 1
theorem zM4 (w:World) (u v:Value) (t:TypeId):Kit.Src (w.alloc (.cells #[u,v] t)) (some ⟨w.heap.size,0,none⟩) [u,v]:=by
 intro j x hx
 match j,hx with
 |0,hx=>exact⟨_,_,rfl,by simp at hx;subst hx;simp⟩
 |1,hx=>exact⟨_,_,rfl,by simp at hx;subst hx;simp⟩
theorem zXj (a:Option Addr) (w:World) (hs:Kit.Src w a [zDh,zDh]):Calls Tryz.prog 44 #[.slice a 2 2,.int .i64 9] w fun e w'=>∃G,e= .returned (.tuple #[.slice (some ⟨G,0,none⟩) 2 2,.int .i64 0])/\Below w.heap.size w w':=by
 have h:=zKj [1,1] a 2 2 9 w rfl (by omega) (by omega) hs (by decide) (by decide) (by omega) (by omega) (by decide)
 exact h.mono fun e w' ⟨G,h1,_,_,_,h2⟩=>⟨G,h1,h2⟩
theorem qE5 (a:Option Addr) (w:World) (hs:Kit.Src w a [zDh]):Calls Tryz.prog 26 #[.slice a 1 1,.int .i64 2] w fun e w'=>e= .returned (.tuple #[.agg #[.string (pk (zAz false [1])),.int .i64 2],.int .i64 0])/\Below w.heap.size w w':=
 zK2 [1] a 1 1 w rfl (by omega) hs (by decide)
theorem qF9 (a:Option Addr) (w:World) (hs:Kit.Src w a [zDh,zDh]):Calls Tryz.prog 27 #[.slice a 2 2] w fun e w'=>e= .returned (.tuple #[.agg #[.string (pk (delta [1,1])),.int .i64 7],.int .i64 0])/\Below w.heap.size w w':=by
 have h:=zLj [1,1] a 2 2 w rfl (by omega) (by omega) hs (by decide) (by decide)
 rw[show zAe (delta [1,1])= .agg #[.string (pk (delta [1,1])),.int .i64 7]from by unfold zAe;rw[show(delta [1,1]).length=7 from by decide];rfl]at h
 exact h
theorem qD4 (a:Option Addr) (w:World) (hs:Kit.Src w a [zDh]):Calls Tryz.prog 38 #[.string ⟨#[97,98]⟩,.slice a 1 1] w fun e w'=>e= .returned (.tuple #[.string ⟨#[98]⟩,.int .i64 0])/\Below w.heap.size w w':=by
 have h:=Front.zLq ⟨#[97,98]⟩ (by decide) a 1 1 [1] rfl (by omega) w hs
 unfold Front.zSb at h
 rw[show(⟨(Front.zIv [97,98] [1]).toArray⟩:ByteArray)=⟨#[98]⟩from by decide,show Front.zC3 [97,98] [1]=0 from by decide]at h
 exact h
theorem qEm:zA7 [98,97]=[1,0]:=by
 simp[zA7,sorted,List.mergeSort,List.range,List.range.loop,List.MergeSort.Internal.splitInTwo,List.merge]
 decide
theorem zY3 (w:World):Calls Tryz.prog 39 #[.string ⟨#[98,97]⟩,.int .i64 1] w fun e w'=>e= .returned (.tuple #[.string ⟨#[98,97]⟩,.int .i64 0])/\Below w.heap.size w w':=by
 have h:=zHm ⟨#[98,97]⟩ 1 (by decide) (by decide) w
 rw[show(⟨(unL ⟨#[98,97]⟩ 1).toArray⟩:ByteArray)=⟨#[98,97]⟩from by unfold unL;rw[show bl ⟨#[98,97]⟩=[98,97]from by decide,qEm];decide]at h
 exact h
theorem qEa (a:Option Addr) (w:World) (hs:Kit.Src w a [zDh,zDh]):Calls Tryz.prog 45 #[.slice a 2 2] w fun e w'=>e= .returned (.int .i64 0)/\Below w.heap.size w w':=
 zCk [1,1] a 2 2 w rfl hs ⟨by decide,by decide,by decide,by decide,by decide⟩
theorem qGz (w:World):Calls Tryz.prog 25 #[.string ⟨#[]⟩] w fun e w'=>e= .returned (.int .u32 0)/\Below w.heap.size w w':=by
 have h:=Crc.zG7 ⟨#[]⟩ (by decide) w
 rw[show Crc.U (Crc.sum (⟨#[]⟩:ByteArray).data.toList)=0 from by unfold Crc.U;rfl]at h
 exact h
theorem qEf (w:World):Calls Tryz.prog 20 #[.string ⟨#[98,97]⟩] w fun e w'=>e= .returned (.string ⟨#[97,98]⟩)/\Below w.heap.size w w':=by
 have h:=zEc ⟨#[98,97]⟩ (by decide) w
 rw[show zAj ⟨#[98,97]⟩=⟨#[97,98]⟩from by decide]at h
 exact h
theorem qA9 (w:World):Calls Tryz.prog 46 #[.int .i64 3] w fun e w'=>∃a c,e= .returned (.slice a 2 c)/\Below w.heap.size w w':=by
 have h:=zMt 3 (by omega) w
 rw[show(digits 3).length=2 from by simp[digits]]at h
 exact h.mono fun e w' ⟨a,c,h1,_,h2⟩=>⟨a,c,h1,h2⟩
theorem qC5 (w:World):Calls Tryz.prog 47 #[.string ⟨#[97,98]⟩] w fun e w'=>∃G c,e= .returned (.slice (some ⟨G,0,none⟩) 2 c)/\Below w.heap.size w w':=
 (zOm ⟨#[97,98]⟩ 2 rfl (by omega) (by omega) w).mono fun e w' ⟨a,c,h1,_,h2⟩=>⟨a,c,h1,h2⟩
end Al
namespace Al
open Go.RowKit Hf Bt Zr Ix Front Wg Ch Sl Sq Us St Tn Bk Rg Sm Sh
variable {w w1 w2:World} {B:Nat}
theorem al2 {o:Obj} (h:Below B w w1/\B<=w1.heap.size) (hb:Below (w1.alloc o).heap.size (w1.alloc o) w2):Below B w w2/\B<=w2.heap.size:=by
 have hz:=hb.size
 rw[zA]at hz
 exact⟨h.1.trans (((Below.refl _ _).alloc h.2 o).trans (hb.mono (by rw[zA];omega))),by omega⟩
theorem al1 (h:Below B w w1/\B<=w1.heap.size) (hb:Below w1.heap.size w1 w2):Below B w w2/\B<=w2.heap.size:=
 ⟨h.1.trans (hb.mono h.2),Nat.le_trans h.2 hb.size⟩
theorem zPf (w:World) (hm:HM w):Calls Tryz.prog 7 #[] w fun e w'=>e= .returned (.bool true)/\Below w.heap.size w w':=by
 obtain⟨B,hB⟩:=zB w.heap.size
 have HRU:=zH (qCu w hm)
 have HB:=zH hB
 rw[hB]at HRU⊢
 clear hm hB
 go_enter Tryz.func7,Tryz.ntmps7
 go_wp2_with fail
 (with_reducible refine HRU.out.mono ?_)
 rintro e w1 ⟨rfl,hb1⟩
 have B1:=zH (show Below B w w1/\B<=w1.heap.size from⟨hb1,by have:=hb1.size;have:=HB.out;omega⟩)
 clear hb1 HRU
 go_wp2_with fail
 (with_reducible refine(zXj _ _ (zM4 w1 zDh zDh 3)).mono ?_)
 rintro e w2 ⟨G,rfl,hb2⟩
 have B2:=zH (al2 B1.out hb2)
 clear hb2 B1
 go_wp2_with fail
 (with_reducible refine(qE5 _ _ (Kit.zAs w2 zDh 3)).mono ?_)
 rintro e w3 ⟨rfl,hb3⟩
 have B3:=zH (al2 B2.out hb3)
 clear hb3 B2
 go_wp2_with fail
 have S3:=zM4 (w3.alloc (.cells #[.string (Bt.pk (zAz false [1])),.int .i64 2] 51)) zDh zDh 3
 rw[zA]at S3
 (with_reducible refine(qF9 _ _ S3).mono ?_)
 rintro e w4 ⟨rfl,hb4⟩
 have H4:=zH (zAb (zAb (zAh w3 (.cells #[.string (Bt.pk (zAz false [1])),.int .i64 2] 51)) ((Below.refl _ _).alloc (Nat.le_refl _) _)) hb4)
 have B4:=zH (al2 (al1 B3.out ((Below.refl _ _).alloc (Nat.le_refl _) _)) hb4)
 clear hb4 B3 S3
 go_wp2_with fail
 have S4:=Kit.zAs (w4.alloc (.cells #[.string (Bt.pk (delta [1,1])),.int .i64 7] 51)) zDh 3
 rw[zA]at S4
 (with_reducible refine(qD4 _ _ S4).mono ?_)
 rintro e w5 ⟨rfl,hb5⟩
 have H5:=zH (zAb (zAb (zAh w4 (.cells #[.string (Bt.pk (delta [1,1])),.int .i64 7] 51)) ((Below.refl _ _).alloc (Nat.le_refl _) _)) hb5)
 have G5:=zH (zAb (zAb (zAb H4.out ((Below.refl _ _).alloc (Nat.le_refl _) (.cells #[.string (Bt.pk (delta [1,1])),.int .i64 7] 51))) ((Below.refl _ _).alloc (Nat.le_refl _) _)) hb5)
 have B5:=zH (al2 (al1 B4.out ((Below.refl _ _).alloc (Nat.le_refl _) _)) hb5)
 clear hb5 B4 S4 H4
 go_wp2_with fail
 (with_reducible refine(zY3 _).mono ?_)
 rintro e w6 ⟨rfl,hb6⟩
 have H6:=zAb H5.out hb6
 have G6:=zAb G5.out hb6
 have B6:=zH (al1 B5.out hb6)
 have c7:w6.cell? ⟨w4.heap.size,1,none⟩=some (.int .i64 7):=by simp[World.cell?,H6]
 have c2:w6.cell? ⟨w3.heap.size,1,none⟩=some (.int .i64 2):=by simp[World.cell?,G6]
 clear hb6 B5 H5 G5 H6 G6
 go_wp2_with fail
 (with_reducible refine(qEa _ _ (zM4 w6 zDh zDh 3)).mono ?_)
 rintro e w7 ⟨rfl,hb7⟩
 have B7:=zH (al2 B6.out hb7)
 clear hb7 B6 c7 c2
 go_wp2_with fail
 (with_reducible refine(qGz _).mono ?_)
 rintro e w8 ⟨rfl,hb8⟩
 have B8:=zH (al1 B7.out hb8)
 clear hb8 B7
 go_wp2_with fail
 (with_reducible refine(qEf _).mono ?_)
 rintro e w9 ⟨rfl,hb9⟩
 have B9:=zH (al1 B8.out hb9)
 clear hb9 B8
 go_wp2_with fail
 (with_reducible refine(qA9 _).mono ?_)
 rintro e w10 ⟨a10,c10,rfl,hb10⟩
 have B10:=zH (al1 B9.out hb10)
 clear hb10 B9
 go_wp2_with fail
 (with_reducible refine(qC5 _).mono ?_)
 rintro e w11 ⟨a11,c11,rfl,hb11⟩
 have B11:=zH (al1 B10.out hb11)
 clear hb11 B10
 go_wp2
 go_ret
 exact⟨rfl,B11.out.1⟩
end Al
namespace Al
open Go.RowKit Hf Bt Zr Ix Front Wg Ch Sl Sq Us St Tn Bk Rg Sm Sh
variable {w:World} {B:Nat} {u v:Value}
structure Tm (x:ByteArray) (X:List UInt8) (p A L:ByteArray) (n O:Nat) (l m0 m:List Nat) (N:Nat):Prop where
 en:∀W,Calls Tryz.prog 17 #[.string x,.int .i64 360] W fun e w'=>e= .returned (.tuple #[zAe (zAn X),.int .i64 0])/\Below W.heap.size W w'
 pk:∀W,Calls Tryz.prog 18 #[.string x] W fun e w'=>e= .returned (.string p)/\Below W.heap.size W w'
 fw:∀W,Calls Tryz.prog 19 #[.string p] W fun e w'=>e= .returned (.tuple #[.string L,.int .i64 (O:Int)])/\Below W.heap.size W w'
 al:∀W,Calls Tryz.prog 20 #[.string p] W fun e w'=>e= .returned (.string A)/\Below W.heap.size W w'
 fr:∀W,Calls Tryz.prog 21 #[.string A,.string L] W fun e w'=>∃q c,e= .returned (.tuple #[.slice q n c,.int .i64 0])/\Kit.Src w' q (l.map ival)/\Below W.heap.size W w'/\Ad q n c
 ze:∀(q:Option Addr) (c:Nat) (W:World),Kit.Src W q (l.map ival)->Ad q n c->Calls Tryz.prog 22 #[.slice q n c] W fun e w'=>∃a' c',e= .returned (.tuple #[.slice a' m0.length c',.int .i64 0])/\Kit.Own w' W.heap.size 3 a' m0.length c' (m0.map ival)/\Below W.heap.size W w'
 su:∀W,Calls Tryz.prog 25 #[.string x] W fun e w'=>e= .returned (.int .u32 (zBa X:Int))/\Below W.heap.size W w'
 mp:∀W,Calls Tryz.prog 28 #[.string A] W fun e w'=>e= .returned (zAe (zC2 (bl A)))/\Below W.heap.size W w'
 eX:x.data.toList=X
 ep:pkT X=p
 eA:zAj p=A
 eO:zA8 p=O
 em:m=m0++[A.size+1]
 es:sym p=m
 eN:N=A.size+2
 lt:∀y∈m,y<N
 ml:m.length<=n+1
 n0:0<n
 n1:n<=250
 A1:A.size<=256
 N1:3<=N/\N<=258
 O1:O<n
 pn:p.size=n
 el:plc p=l
 eL:lastT p=L
 e0:sy p=m0
 s1:zBa X<4294967296
theorem zWf (x:ByteArray) (hxs:x.size<=200) (h0:0<x.size):∃X p A L n O l m0 m N,Tm x X p A L n O l m0 m N:=by
 obtain⟨X,hX⟩:=zB x.data.toList
 have hxl:X.length=x.size:=by rw[<-hX];simp
 have hlb:=Rle.zBu X
 have hpp:=zJp X (by omega)
 have hps:=zFy X
 have hEN:=fun W=>zD8 x X hX h0 (by omega) 360 (by omega) (by omega) (by omega) W
 have hPK:=fun W=>by have h:=Rle.zR8 x (by omega) W;rw[hX]at h;exact h
 obtain⟨p,hp⟩:=zB (pkT X)
 rw[show Rle.bs (Rle.pack X)=p from by unfold Rle.bs;exact hp]at hPK
 rw[hp]at hpp hps
 obtain⟨n,hn⟩:=zB p.size
 have hn1:n<=250:=by omega
 have hal:=zFk p
 have hpc:=zTm p hpp
 have hmem:=fun k hk=>zQr p hpp k hk
 have hlen:=zDb p
 have hcd:=zF8 p hpp
 have hsl:=zIo p
 have hslt:=zPz p hpp
 have hOl:=zDq p hpp
 obtain⟨A,hA⟩:=zB (zAj p)
 obtain⟨O,hO⟩:=zB (zA8 p)
 obtain⟨L,hL⟩:=zB (lastT p)
 have hLs:L.size=n:=by rw[<-hL,zCp,hn]
 rw[hA]at hal hmem hslt
 rw[hn]at hsl hlen hOl
 rw[hO]at hOl
 have hFr:=fun W=>zMo A L (by omega) (by omega) W
 rw[show A.data.toList=al p from by rw[<-hA];rfl,show L.data.toList=la p from by rw[<-hL];rfl,hpc.1,hpc.2,hlen]at hFr
 have hsm:sym p=enc 0 (plc p)++[A.size+1]:=by rw[<-hA];rfl
 have hN:codes p=A.size+2:=by rw[<-hA];rfl
 rw[hN]at hcd
 refine⟨X,p,A,L,n,O,plc p,enc 0 (plc p),sym p,A.size+2,hEN,hPK,fun W=> ?_,fun W=> ?_,fun W=> ?_,fun q c W hs had=> ?_,fun W=> ?_,fun W=>zTv A (by omega) W,hX,hp,hA,hO,hsm,rfl,rfl,hslt,hsl,by omega,hn1,hal,hcd,hOl,hn,rfl,hL,rfl,?_⟩
 ·have h:=zKn p n hn (by omega) (by omega) W
  rw[hL,hO]at h
  exact h
 ·have h:=zEc p (by omega) W
  rw[hA]at h
  exact h
 ·exact(hFr W).mono fun e w' ⟨q,c,h1,h2,h3,_,h4⟩=>⟨q,c,h1,h2,h3,h4⟩
 ·exact Zr.zD8 (plc p) q n c W hlen (by omega) hs had (fun x hx=>by have:=hmem x hx;omega)
 ·have h:=Crc.zG7 x (by unfold maxLen;omega) W
  rw[hX]at h
  rw[show(zBa X:Int)=Crc.U (Crc.sum X)from by unfold Crc.U zBa;rfl]
  exact h
 ·unfold zBa
  exact(Crc.sum X).isLt
abbrev TBi:TypeId:=51
theorem zC1 {t:TypeId} (h:w.heap[B]? =some (.cells #[u,v] t (0,0))):w.cell? ⟨B,0,none⟩=some u/\w.cell? ⟨B,1,none⟩=some v/\w.frozen? ⟨B,0,none⟩=false/\w.frozen? ⟨B,1,none⟩=false:=
 ⟨by simp[World.cell?,h],by simp[World.cell?,h],by simp[World.frozen?,h],by simp[World.frozen?,h]⟩
theorem zFp (h:w.heap[B]? =some (.cells #[u,v] TBi (0,0))):(loadVar TBi ⟨B,0,none⟩).run Tryz.prog w= .ok (.agg #[u,v]) w:=by
 obtain⟨y0,y1,_,_⟩:=zC1 h
 simp[loadVar,go_sem,y0,y1]
theorem zJi {u' v':Value} (h:w.heap[B]? =some (.cells #[u,v] TBi (0,0))) (h1:∀z∈[u',v'],z.oneCell'=true):
  ∃w',(storeVar TBi ⟨B,0,none⟩ (.agg #[u',v'])).run Tryz.prog w= .ok () w'/\w'.heap[B]? =some (.cells #[u',v'] TBi (0,0))/\(∀D,D<=B->Below D w w')/\w'.heap.size=w.heap.size:=by
 obtain⟨c0,c1,f0,f1⟩:=zC1 h
 have hst:=run_storeVar_mid (P:=Tryz.prog) w B 0 TBi #[u',v'] (fun j hj=>by
  have hj4:j<2:=hj
  obtain rfl|rfl:j=0\/j=1:=by omega
  ·exact⟨by rw[show 0+0=0 from rfl,c0];rfl,f0⟩
  ·exact⟨by rw[show 0+1=1 from rfl,c1];rfl,f1⟩) (by kernel_rfl) (by simpa using h1)
 refine⟨_,hst,zA3 1 _ (zA3 0 _ h),fun D hD=>((Below.refl _ w).setCell (p:=⟨B,0,none⟩) hD _).setCell (p:=⟨B,1,none⟩) hD _,?_⟩
 simp[World.setCells]
theorem qE9 {ρ:Operand->Value} {o:Oper} {x:Operand} {v:Nat} (ho:o.op= .convert 65 64 x) (hx:ρ x= .int .u32 (v:Int)) (hv:v<4294967296) (w:World):(execOp ρ o).run Tryz.prog w= .ok (.value (.int .u64 (v:Int))) w:=by
 unfold execOp
 have h1:IntKind.u64.wrap (v:Int)=(v:Int):=by
  unfold IntKind.wrap
  simp[IntKind.signed,IntKind.bits]
  omega
 simp[ho,hx,go_sem,h1]
structure Hd3 (X:List UInt8) (O:Nat) (m1 m2 m3:List Bool):Prop where
 e1:num zA4 48=m1
 e2:m1++num (zBa X) 32=m2
 e3:m2++num O 16=m3
 p1:∀W,Calls Tryz.prog 24 #[.agg #[.string ⟨#[]⟩,.int .i64 0],.int .u64 54156738319193,.int .i64 48] W fun e w'=>e= .returned (.tuple #[.agg #[.string (Bt.pk m1),.int .i64 48],.int .i64 0])/\Below W.heap.size W w'
 p2:∀W,Calls Tryz.prog 24 #[.agg #[.string (Bt.pk m1),.int .i64 48],.int .u64 (zBa X:Int),.int .i64 32] W fun e w'=>e= .returned (.tuple #[.agg #[.string (Bt.pk m2),.int .i64 80],.int .i64 0])/\Below W.heap.size W w'
 p3:∀W,Calls Tryz.prog 24 #[.agg #[.string (Bt.pk m2),.int .i64 80],.int .u64 (O:Int),.int .i64 16] W fun e w'=>e= .returned (.tuple #[.agg #[.string (Bt.pk m3),.int .i64 96],.int .i64 0])/\Below W.heap.size W w'
theorem zFm (m:List Bool) (v n:Nat) {m':List Bool} (hm:m++num v n=m') {d:ByteArray} (hd:Bt.pk m=d) (k k':Nat) (hk:m.length=k) (hk':k+n=k') {V:Int} (hV:(v:Int)=V) (hv:v<18446744073709551616) (hn:n<=64) (hl:k'<=1000000) (W:World):
  m'.length=k'/\Calls Tryz.prog 24 #[.agg #[.string d,.int .i64 (k:Int)],.int .u64 V,.int .i64 (n:Int)] W fun e w'=>e= .returned (.tuple #[.agg #[.string (Bt.pk m'),.int .i64 (k':Int)],.int .i64 0])/\Below W.heap.size W w':=by
 have h2:m'.length=k':=by rw[<-hm,List.length_append,zAc,hk,hk']
 have h:=zD1 m v n hm hd (by rw[hk]) hV rfl hv hn (by omega) W
 rw[h2]at h
 exact⟨h2,h⟩
theorem qDv (X:List UInt8) (O:Nat) (hO:O<1000):∃m1 m2 m3,Hd3 X O m1 m2 m3:=by
 have hs:zBa X<4294967296:=by unfold zBa;exact(Crc.sum X).isLt
 have l1:(num zA4 48).length=48:=zAc _ _
 have l2:(num zA4 48++num (zBa X) 32).length=80:=by rw[List.length_append,zAc,zAc]
 refine⟨_,_,_,rfl,rfl,rfl,fun W=> ?_,fun W=> ?_,fun W=> ?_⟩
 ·exact(zFm [] zA4 48 (m':=num zA4 48) rfl (d:=⟨#[]⟩) (by kernel_rfl) 0 48 rfl rfl (V:=54156738319193) rfl (by decide) (by omega) (by omega) W).2
 ·exact(zFm (num zA4 48) (zBa X) 32 rfl rfl 48 80 l1 rfl rfl (by omega) (by omega) (by omega) W).2
 ·exact(zFm (num zA4 48++num (zBa X) 32) O 16 rfl rfl 80 96 l2 rfl rfl (by omega) (by omega) (by omega) W).2
end Al
end Go.Proofs.YtppnakkaljbmbaaGreatDoor
