/- Steps of a proof; no condition beyond what each states. -/
import Derived.Test.YtppnakkaljbmbaaGreatDoorZU33
set_option linter.unusedVariables false
set_option linter.unusedSimpArgs false
set_option maxRecDepth 100000
set_option maxHeartbeats 8000000
namespace Go.Proofs.YtppnakkaljbmbaaGreatDoor
namespace Bk
open Go.RowKit Hf Bt Zr Ix Front Wg Ch Sl Sq Us St Tn
variable {w w':World} {D n c R Q O:Nat} {A:ByteArray} {p:Option Addr}
def hdB (p:ByteArray):List Bool:=num 2 3++(num (cho p).length 15++(zAz false (cho p)++(delta (tab p 0)++delta (tab p 1))))
def bdB (p:ByteArray):List Bool:=zA0 (tabs (cho p) (tab p 0) (tab p 1)) (sym p) 0 (sym p).length
theorem zXx (p:ByteArray):((List.range (groups p).length).map (zBe p)).flatten=bdB p:=by
 have h:=zOx (tabs (cho p) (tab p 0) (tab p 1)) (sym p) (groups p).length (Nat.le_refl _)
 have hl:=zFg p
 rw[show min (10*(groups p).length) (sym p).length=(sym p).length by omega]at h
 unfold bdB
 rw[<-h]
 unfold zNp
 rw[List.flatMap_def]
 rfl
theorem zE6 (x:List UInt8):zAn x=num zA4 48++(num (zBa x) 32++(num (zA8 (pkT x)) 16++(zC2 (bl (zAj (pkT x)))++(hdB (pkT x)++bdB (pkT x))))):=by
 unfold zAn zIg zCg hdB
 rw[List.flatten_append,List.flatten_append,zXx]
 simp[List.append_assoc]
theorem zTc (p:ByteArray) (h:0<p.size) (q:Nat) (hq:q<(sym p).length):(sym p).getD q 0<codes p/\((sym p).getD q 0+1=codes p↔q+1=(sym p).length):=by
 have hl:=zCv p
 unfold codes
 rcases Nat.lt_or_ge q (sy p).length with h1|h1
 ·have hg:(sym p).getD q 0=(sy p)[q]:=by
   unfold sym
   rw[List.getD_eq_getElem?_getD,List.getElem?_append_left h1,List.getElem?_eq_getElem h1];rfl
  have h2:=zPm p h _ (List.getElem_mem h1)
  rw[hg]
  constructor
  ·omega
  ·constructor<;>intro<;>omega
 ·have hg:(sym p).getD q 0=(zAj p).size+1:=by
   unfold sym
   rw[List.getD_eq_getElem?_getD,List.getElem?_append_right h1,show q-(sy p).length=0 by omega];rfl
  rw[hg]
  constructor
  ·omega
  ·constructor<;>intro<;>omega
theorem qC2 {e:TypeId} {a:Option Addr} {xs:List Value} (h:Kit.Own w D e a n c xs) (hn:0<n):c<=9223372036854775807:=by
 obtain⟨_,⟨_,h2⟩|⟨g,cap,cur,hv,_,_,_,hm,_⟩⟩:=h
 ·omega
 ·injection hv with _ _ hc
  unfold maxLen at hm
  omega
def QB (w:World) (Q:Nat) (A:ByteArray) (O:Nat) (p:Option Addr) (n c:Nat):Prop:=w.heap[Q]? =some (.cells #[.string A,.int .i64 (O:Int),.slice p n c] Sq.TQ (0,0))
theorem Upd.qGg {w1:World} (h:Upd w w1 R) (hb:Below D w1 w') (hD:w.heap.size<=D) (hR:R<=D):Upd w w' R:=
 ⟨fun k h1 h2=>(hb.block k (by omega)).trans (h.old k h1 h2),h.below.trans (hb.mono hR)⟩
theorem QB.lt (h:QB w Q A O p n c):Q<w.heap.size:=zAd h
theorem QB.upd (h:QB w Q A O p n c) (hu:Upd w w' R) (hR:R<Q):QB w' Q A O p n c:=(hu.old Q h.lt (by omega)).trans h
theorem QB.below (h:QB w Q A O p n c) (hb:Below w.heap.size w w'):QB w' Q A O p n c:=(hb.block Q h.lt).trans h
theorem qDt (p:ByteArray) (j:Nat):j+3+15+(zAz false (cho p)).length+(delta (tab p 0)).length+(delta (tab p 1)).length=j+(hdB p).length:=by
 unfold hdB
 simp only[List.length_append,zAc]
 omega
theorem zY7 (R i room:Nat) (a s:ByteArray) (x:List UInt8) (w:World) (h:RD w R ⟨a,i,none,0,0,none,0,0,0⟩) (hs:a.size<=100000000) (hx:s.data.toList=x) (h0:0<x.length) (hr1:1<=room) (hr2:room<=360) (hl:Rle.Len x<=room) (ha:At a i (zAn x)):
  Calls Tryz.prog 285 #[.pointer (some ⟨R,0,none⟩),.int .i64 (room:Int)] w fun e w'=>e= .returned (.tuple #[.string s,.int .u32 (zBa x:Int)])/\(∃tp tc cq KG cc,RD w' R ⟨a,i+(zAn x).length,tp,2,tc,cq,KG,cc,codes (pkT x)⟩)/\Upd w w' R:=by
 have hpp:=zJp x h0
 have hps:=zFy x
 obtain⟨p,hp⟩:=zB (pkT x)
 have hbl:=zE6 x
 rw[hp]at hbl hpp hps
 rw[hbl]at ha
 have a1:=At.left ha
 have ha2:=At.right ha (j:=i+48) (by rw[zAc])
 have a2:=At.left ha2
 have ha3:=At.right ha2 (j:=i+48+32) (by rw[zAc])
 have a3:=At.left ha3
 have ha4:=At.right ha3 (j:=i+48+32+16) (by rw[zAc])
 have a4:=At.left ha4
 have ha5:=At.right ha4 rfl
 have a5:=At.left ha5
 have a6:=At.right ha5 rfl
 have b1:=At.bound a1
 have b2:=At.bound a2
 have b3:=At.bound a3
 rw[zAc]at b1 b2 b3
 have hsm:zBa x<4294967296:=(Crc.sum x).isLt
 have hol:=zDq p hpp
 have HP1:=zH (zFx R 48 54156738319193 ⟨a,i,none,0,0,none,0,0,0⟩ 48 rfl w h (by omega) b1 hs (At.val a1 (by decide)))
 have HM:=zH (fun(e:Int) (w:World)=>zJv e w)
 have HO:=zH (fun(w:World)=>zPn w)
 have AT2:=zH (At.val a2 (by omega))
 have AT3:=zH (At.val a3 (by omega))
 have A4:=zH a4
 have A5:=zH a5
 have A6:=zH a6
 have HP:=zH hp
 have HX:=zH hx
 have HBL:=zH hbl
 have HPS:=zH hps
 have HL:=zH hl
 have hw32:IntKind.u32.wrap (zBa x:Int)=(zBa x:Int):=IntWalk.u32_in _ ⟨by omega,by omega⟩
 clear ha a1 ha2 a2 ha3 a3 ha4 a4 ha5 a5 a6 h hx hp hbl hps hl
 go_enter Tryz.func285,Tryz.ntmps285
 go_wp2_with fail
 (with_reducible refine HP1.out.mono ?_)
 rintro e w1 ⟨rfl,hk,hu⟩
 have K1:=zH (show RD w1 R ⟨a,i+48,none,0,0,none,0,0,0⟩from hk)
 have U1:=zH hu
 rw[show((54156738319193:Nat):Int)=(54156738319193:Int)from rfl]
 clear hk hu HP1
 go_wp2_with fail
 (with_reducible refine(HM.out _ _).mono ?_)
 rintro e w2 ⟨rfl,rfl⟩
 have HP2:=zH (zFx R 32 (zBa x) ⟨a,i+48,none,0,0,none,0,0,0⟩ 32 rfl w2 K1.out (by omega) b2 hs AT2.out)
 go_wp2_with fail
 (with_reducible refine HP2.out.mono ?_)
 rintro e w3 ⟨rfl,hk,hu⟩
 have K3:=zH (show RD w3 R ⟨a,i+48+32,none,0,0,none,0,0,0⟩from hk)
 have U3:=zH (U1.out.trans hu)
 clear hk hu HP2 K1 U1
 have HP3:=zH (zFx R 16 (zA8 p) ⟨a,i+48+32,none,0,0,none,0,0,0⟩ 16 rfl w3 K3.out (by omega) b3 hs AT3.out)
 go_wp2_with fail
 (with_reducible refine HP3.out.mono ?_)
 rintro e w5 ⟨rfl,hk,hu⟩
 have K5:=zH (show RD w5 R ⟨a,i+48+32+16,none,0,0,none,0,0,0⟩from hk)
 have U5:=zH (U3.out.trans hu)
 clear hk hu HP3 K3 U3
 obtain⟨Q,hQ⟩:=zB w5.heap.size
 have hRQ:R<Q:=by rw[<-hQ];exact K5.out.lt
 obtain⟨O,hO⟩:=zB (zA8 p)
 obtain⟨W,hW⟩:=zB (w5.alloc (.cells #[.string ⟨#[]⟩,.int .i64 (O:Int),.slice none 0 0] Sq.TQ))
 have hbW:Below Q w5 W:=by rw[<-hW,<-hQ];exact(Below.refl _ _).alloc (Nat.le_refl _) _
 have hW5:w5.heap.size<=Q:=by omega
 have hwQ:w.heap.size<=Q:=by have:=U5.out.size;omega
 have Q6:=zH (show QB W.drew Q ⟨#[]⟩ O none 0 0 by rw[<-hW,<-hQ];exact zAh w5 _)
 have K6:=zH (show RD W.drew R ⟨a,i+48+32+16,none,0,0,none,0,0,0⟩from K5.out.below (by rw[hQ];exact hbW.drew))
 have U6:=zH ((U5.out.trans (Upd.of_below (by rw[hQ];exact hbW) (by omega))).trans (Upd.drew W R))
 have HW:=zH hW
 have HQ:=zH hQ
 have HO':=zH hO
 rw[hO]at hol
 obtain⟨j,hj⟩:=zB (i+48+32+16)
 rw[hj]at A4 A5 A6 K6
 have hmp:0<(bl (zAj p)).length:=by rw[zB2];exact zMz p hpp
 have HUN:=zH (show Calls Tryz.prog 33 #[.string a,.int .i64 (j:Int)] W.drew fun e w'=>e= .returned (.tuple #[.string (zAj p),.int .i64 ((j+(zC2 (bl (zAj p))).length:Nat):Int),.int .i64 0])/\Below W.drew.heap.size W.drew w' from by
  have h:=zN8 a j (bl (zAj p)) hs _ (zVk _ _ (List.getElem_mem hmp)) (List.getElem_mem hmp) A4.out W.drew
  rw[show(⟨(alpha (bl (zAj p)) 256).toArray⟩:ByteArray)=zAj (zAj p)from rfl,zVu]at h
  exact h)
 obtain⟨A,hA⟩:=zB (zAj p)
 obtain⟨j2,hj2⟩:=zB (j+(zC2 (bl (zAj p))).length)
 rw[hj2,hA]at HUN
 rw[hj2]at A5 A6
 have HA:=zH hA
 have HJ:=zH (And.intro hj hj2)
 clear hbW hW hQ hO hj hmp hA hj2 K5 U5 hW5
 go_wp2
 rw[HQ.out,HO'.out,show w5.alloc (.cells #[.string ⟨#[]⟩,.int .i64 (O:Int),.slice none 0 0] Sq.TQ)=W from HW.out]
 refine zS [] (fun _=>True) [0,1,2,4,8,0,32,64,128,256,528,1024,2048,2048,2048,8191,49151,131071] 18<|zp [0,1,2,3,4,5,6,7,8,9]<|zk 30 (zP R 0)<|zk 31 (zP R 0)<|zk 32 (zP R 0)<|zk 33 (zP R 0)<|zt 34 (.string a) (zl 9 33 (K6.out.l0))<|zk 35 (zP R 0)<|zk 36 (zP R 0)<|zk 37 (zP R 0)<|zk 38 (zP R 1)<|zt 39 (zI j) (zl 3 38 (K6.out.l1))<|zn<|zx 10 40 33 #[.string a,.int .i64 (j:Int)] HUN.out<| ?_
 rintro e w7 ⟨rfl,hb7⟩
 refine⟨_,rfl,.inr (.inr trivial),?_⟩
 refine zp [11,12,13,14,15,16,17]<|zk 29 (.tuple #[.string A,.int .i64 (j2:Int),.int .i64 0])<|zk 41 (.string A)<|zk 42 (zI j2)<|zk 43 (.int .i64 0)<|zk 8 (.string A)<|zk 9 (zI j2)<|zk 10 (.int .i64 0)<|zn<|zE<| ?_
 simp only[zP,zI,Act.put,List.setIfInBounds_toArray,List.set_cons_zero,List.set_cons_succ]
 have hRr:=K6.out.lt
 have K7:=zH (K6.out.below hb7)
 have U7:=zH (U6.out.trans (Upd.of_below hb7 (Nat.le_of_lt hRr)))
 have Q7:=zH (Q6.out.below hb7)
 clear hb7 HUN K6 U6 Q6 hRr HW HQ
 have HCM:=zH (zIc R j2 _ w7 K7.out)
 go_wp2_with fail
 (with_reducible refine HCM.out.mono ?_)
 rintro e w8 ⟨rfl,hk,hu⟩
 have K8:=zH (show RD w8 R ⟨a,j2,none,0,0,none,0,0,0⟩from hk)
 have U8:=zH (U7.out.trans hu)
 have Q8:=zH (Q7.out.upd hu hRQ)
 clear hk hu HCM K7 U7 Q7
 obtain⟨y0,y1,y2,z0,z1,z2⟩:=zBi Q8.out
 have Q9:=zH (show QB (w8.setCell ⟨Q,0,none⟩ (.string A)) Q A O none 0 0 from zA3 0 (.string A) Q8.out)
 have K9:=zH (K8.out.keep (zCw (a:=Q) 0 (.string A) (by omega)))
 have U9:=zH (Upd.qGg U8.out ((Below.refl Q w8).setCell (p:=⟨Q,0,none⟩) (Nat.le_refl _) (.string A)) hwQ (Nat.le_of_lt hRQ))
 obtain⟨w9,hw9⟩:=zB (w8.setCell ⟨Q,0,none⟩ (.string A))
 rw[hw9]at Q9 K9 U9
 obtain⟨v0,v1,v2,_,_,_⟩:=zBi Q9.out
 obtain⟨N,hN⟩:=zB (codes p)
 have hcd:=zF8 p hpp
 have hal:=zFk p
 rw[HA.out]at hal
 have hNA:(A.size:Int)+2=(N:Int):=by rw[<-hN];unfold codes;rw[HA.out];omega
 have HCO:=zH (show Calls Tryz.prog 70 #[.agg #[.string A,.int .i64 (O:Int),.slice none 0 0]] w9 fun e w'=>e= .returned (.int .i64 (N:Int))/\Below w9.heap.size w9 w' from by
  have h:=zO4 A O none 0 0 (by omega) w9
  rw[hNA]at h
  exact h)
 rw[hN]at hcd
 have HN:=zH hN
 clear hN hNA hal
 clear K8 U8 Q8
 go_wp2_with fail
 (with_reducible refine HCO.out.mono ?_)
 rintro e w10 ⟨rfl,hb10⟩
 have K10:=zH (K9.out.below hb10)
 have U10:=zH (U9.out.trans (Upd.of_below hb10 (Nat.le_of_lt K9.out.lt)))
 have Q10:=zH (Q9.out.below hb10)
 have x4:=K10.out.c4
 have f4:=K10.out.fr 4
 simp only at x4
 have K11:=zH (show RD (w10.setCell ⟨R,4,none⟩ (.int .i64 (N:Int))) R ⟨a,j2,none,0,0,none,0,0,N⟩from K10.out.s4 N rfl)
 have U11a:=Upd.set (w:=w10) (K:=R) (i:=4) (v:= .int .i64 (N:Int))
 have U11:=zH (U10.out.trans U11a)
 have Q11:=zH (Q10.out.upd U11a hRQ)
 clear hb10 U11a HCO K9 U9 Q9 K10 U10 Q10
 obtain⟨w11,hw11⟩:=zB (w10.setCell ⟨R,4,none⟩ (.int .i64 (N:Int)))
 rw[hw11]at K11 U11 Q11
 obtain⟨KG,hKG⟩:=zB ((cho p).length)
 have hKG2:((sym p).length+9)/10=KG:=by rw[<-hKG,zJ4,zFg]
 have hps1:p.size<=360:=by have:=HPS.out;have:=HL.out;omega
 have hK2:=zI2 p (by omega)
 rw[<-zJ4,hKG]at hK2
 have hK0:=zU7 p
 rw[<-zJ4,hKG]at hK0
 have HH:=zH (zXu R KG N j2 a none 0 0 (cho p) (tab p 0) (tab p 1) w11 K11.out hs hKG hK0 (by omega) (zYh p) (by omega) hcd.2 (zC6 p hpp (by omega) 0) (zC6 p hpp (by omega) 1) ((zG6 p 0).trans HN.out) ((zG6 p 1).trans HN.out) (by have h:=A5.out;unfold hdB at h;rw[hKG]at h;exact h))
 obtain⟨M,hM⟩:=zB ((sym p).length)
 rw[hM]at hKG2
 have hM1:=zIo p
 rw[hM]at hM1
 have hM3:=zCv p
 rw[hM]at hM3
 have HKG:=zH hKG2
 have HMM:=zH (And.intro hM hM3)
 have hM0:0<M:=by omega
 clear hKG hKG2 hM hM3 y0 y1 y2 z0 z1 z2 v0 v1 v2
 go_wp2_with fail
 (with_reducible refine HH.out.mono ?_)
 rintro e w12 ⟨tp,tc,vs,cq,cc,rfl,hk,hgr,hown,hu⟩
 rw[qDt]at hk
 obtain⟨E,hE⟩:=zB w11.heap.size
 have hRE:R<E:=by rw[<-hE];exact K11.out.lt
 have hEw:E<=w12.heap.size:=by rw[<-hE];exact hu.size
 rw[hE]at hgr hown
 have HS:=zH (zSg R E KG N (j2+(hdB p).length) tc cc M tp cq vs a (cho p) (tab p 0) (tab p 1) (sym p) w12 hk hgr hown hRE hEw hs (zYh p) (zC6 p hpp (by omega) 0) (zC6 p hpp (by omega) 1) ((zG6 p 0).trans HN.out) ((zG6 p 1).trans HN.out) HMM.out.1 HKG.out hM0 (by omega) (by omega) hcd.2
  (fun q hq=>by have h:=zTc p hpp q (by rw[HMM.out.1];exact hq);rw[HN.out,HMM.out.1]at h;exact h) A6.out)
 have K12:=zH hk
 have U12:=zH (U11.out.trans hu)
 have Q12:=zH (Q11.out.upd hu hRQ)
 clear hk hu hgr hown HH K11 U11 Q11 hw11 hE hRE hEw
 go_wp2_with fail
 (with_reducible refine HS.out.mono ?_)
 rintro e w13 ⟨mp,mc,rfl,hk,hown,hu⟩
 have U13:=zH (U12.out.trans hu)
 have Q13:=zH (Q12.out.upd hu hRQ)
 have hQl:=Q12.out.lt
 obtain⟨g,rfl,_,_,hMc,_,_⟩:=hown.at_ hM0
 have hmc:=qC2 hown hM0
 have K13:=zH hk
 obtain⟨y0,y1,y2,z0,z1,z2⟩:=zBi Q13.out
 have Q14:=zH (show QB (w13.setCell ⟨Q,2,none⟩ (.slice (some ⟨g,0,none⟩) M mc)) Q A O (some ⟨g,0,none⟩) M mc from zA3 2 (.slice (some ⟨g,0,none⟩) M mc) Q13.out)
 have K14:=zH (K13.out.keep (zCw (a:=Q) 2 (.slice (some ⟨g,0,none⟩) M mc) (by omega)))
 have U14:=zH (Upd.qGg U13.out ((Below.refl Q w13).setCell (p:=⟨Q,2,none⟩) (Nat.le_refl _) (.slice (some ⟨g,0,none⟩) M mc)) hwQ (Nat.le_of_lt hRQ))
 have O14:=zH (show Kit.Own (w13.setCell ⟨Q,2,none⟩ (.slice (some ⟨g,0,none⟩) M mc)) w12.heap.size 3 (some ⟨g,0,none⟩) M mc ((sym p).map ival)from zCz hown hQl _)
 obtain⟨w14,hw14⟩:=zB (w13.setCell ⟨Q,2,none⟩ (.slice (some ⟨g,0,none⟩) M mc))
 rw[hw14]at Q14 K14 U14 O14
 obtain⟨v0,v1,v2,_,_,_⟩:=zBi Q14.out
 have HRS:=zH (show Calls Tryz.prog 319 #[.agg #[.string A,.int .i64 (O:Int),.slice (some ⟨g,0,none⟩) M mc],.int .i64 (room:Int)] w14 fun e w'=>e= .returned (.tuple #[.string p,.int .i64 0])/\Below w14.heap.size w14 w' from by
  have h:=zSl p g mc room w14 hpp (by omega) (by have:=HMM.out.2;omega) hmc (by have:=HPS.out;have:=HL.out;omega) (by omega) O14.out.src
  unfold qv at h
  rw[HA.out,HO'.out,<-HMM.out.2]at h
  exact h)
 clear hk hu hown HS K12 U12 Q12 K13 U13 Q13
 go_wp2_with fail
 (with_reducible refine HRS.out.mono ?_)
 rintro e w15 ⟨rfl,hb15⟩
 have K15:=zH (K14.out.below hb15)
 have U15:=zH (U14.out.trans (Upd.of_below hb15 (Nat.le_of_lt K14.out.lt)))
 clear hb15 HRS K14 U14 Q14 O14 y0 y1 y2 z0 z1 z2 v0 v1 v2 hw14
 go_wp2_with fail
 (with_reducible refine(HO.out _).mono ?_)
 rintro e w16 ⟨rfl,rfl⟩
 have hw52:IntKind.i64.wrap (52*(room:Int))=52*(room:Int):=IntWalk.i64_in _ ⟨by omega,by omega⟩
 have HUP:=zH (show Calls Tryz.prog 40 #[.string p,.int .i64 (52*(room:Int))] w16 fun e w'=>e= .returned (.tuple #[.string s,.int .i64 0])/\Below w16.heap.size w16 w' from by
  have h:=Rle.zM0 p (52*(room:Int)) (by omega) (by omega) (by omega) w16
  have hpd:p.data.toList=Rle.pack x:=by rw[<-HP.out];rfl
  have hb:=(Rle.zBu x).2
  have hll:=HL.out
  unfold Rle.zIi at h
  rw[hpd,Rle.zQk x _ (by omega),Rle.zI9 x _ (by omega),<-HX.out,Rle.zJ5]at h
  exact h)
 go_wp2_with fail
 (with_reducible refine HUP.out.mono ?_)
 rintro e w17 ⟨rfl,hb17⟩
 have K17:=zH (K15.out.below hb17)
 have U17:=zH (U15.out.trans (Upd.of_below hb17 (Nat.le_of_lt K15.out.lt)))
 clear hb17 HUP K15 U15
 go_wp2_with fail
 (with_reducible refine(HO.out _).mono ?_)
 rintro e w18 ⟨rfl,rfl⟩
 go_wp2
 go_ret2
 refine⟨rfl,⟨tp,tc,cq,KG,cc,?_⟩,U17.out⟩
 have hlen:i+(zAn x).length=j2+(hdB p).length+(bdB p).length:=by
  rw[HBL.out,<-HJ.out.2,<-HJ.out.1]
  simp only[List.length_append,zAc,HA.out]
  omega
 rw[hlen,HP.out,HN.out]
 exact K17.out
end Bk
namespace Bk
open Go.RowKit Hf Bt Zr Ix Front Wg Ch Sl
variable {w w':World} {R n c:Nat} {a:Option Addr} {ls:List (List Bool)}
abbrev TB_:TypeId:=51
abbrev zB5:TypeId:=70
abbrev TW:TypeId:=138
structure BW (w:World) (R:Nat) (a:Option Addr) (n c:Nat) (ls:List (List Bool)):Prop where
 blk:w.heap[R]? =some (.cells #[.slice a n c] TW (0,0))
 own:Kit.Own' LB w (R+1) TB_ a n c ls
theorem BW.lt (h:BW w R a n c ls):R<w.heap.size:=zAd h.blk
theorem BW.below {D:Nat} (h:BW w R a n c ls) (hb:Below D w w') (hD:D=w.heap.size):BW w' R a n c ls:=by
 subst hD
 exact⟨(hb.block R h.lt).trans h.blk,h.own.below hb (Nat.le_refl _)⟩
theorem BW.drew (h:BW w R a n c ls):BW w.drew R a n c ls:=⟨h.blk,h.own⟩
structure StB (w w':World) (R:Nat):Prop where
 old:∀k,k<w.heap.size->k≠R->(∀cs f,w.heap[k]?≠some (.cells cs TB_ f))->w'.heap[k]? =w.heap[k]?
 below:Below R w w'
theorem StB.refl (w:World) (R:Nat):StB w w R:=⟨fun k _ _ _=>rfl,Below.refl _ _⟩
theorem StB.trans {w'':World} (h:StB w w' R) (g:StB w' w'' R):StB w w'' R:=by
 refine⟨fun k h1 h2 h3=> ?_,h.below.trans g.below⟩
 have h4:=h.old k h1 h2 h3
 rw[g.old k (Nat.lt_of_lt_of_le h1 h.below.size) h2 (fun cs f=>by rw[h4];exact h3 cs f),h4]
theorem StB.of_below (hb:Below w.heap.size w w') (hR:R<=w.heap.size):StB w w' R:=⟨fun k h1 _ _=>hb.block k h1,hb.mono hR⟩
theorem StB.size (h:StB w w' R):w.heap.size<=w'.heap.size:=h.below.size
theorem zT8 {B:Nat} {e t:TypeId} {l:List (List Bool)} {cs:Array Value} {f:Nat×Nat} (h:Kit.Own' LB w B e a n c l) (hR:w.heap[R]? =some (.cells cs t f)) (ht:t≠e):
  (Value.slice a n c).ownBlock≠some R:=by
 intro hk
 obtain⟨_,h2⟩:=h
 rcases h2 with⟨h2,_⟩|⟨g,cap,cur,hv,hbg,hg,_⟩
 ·injection h2 with h2 _ _
  subst h2
  simp[Value.ownBlock]at hk
 ·injection hv with ha _ hc
  subst ha
  simp[Value.ownBlock]at hk
  subst hk
  rw[hR]at hg
  injection hg with hg
  injection hg with _ hg _
  exact ht hg
theorem BW.push (h:BW w R a n c ls) (x:List Bool) (hl:n<=100000):
  ∃a' c' w',(Builtin.append_ #[zB5,zB5] zB5 #[.slice a n c,.slice (some ⟨w.heap.size,0,none⟩) 1 1]).run Tryz.prog (w.alloc (.cells (LB.cl x).toArray TB_))= .ok (.slice a' (n+1) c') w'/\
   w'.heap[R]? =some (.cells #[.slice a n c] TW (0,0))/\BW (w'.setCell ⟨R,0,none⟩ (.slice a' (n+1) c')) R a' (n+1) c' (ls++[x])/\StB w (w'.setCell ⟨R,0,none⟩ (.slice a' (n+1) c')) R:=by
 have hr:Kit.Rd LB (w.alloc (.cells (LB.cl x).toArray TB_)) (some ⟨w.heap.size,0,none⟩) [x]:=Kit.zFo w x TB_
 have ho:Kit.Own' LB (w.alloc (.cells (LB.cl x).toArray TB_)) (R+1) TB_ a n c ls:=h.own.alloc _
 have hR:=h.lt
 obtain⟨a',c',w',h1,h2,h3⟩:=ho.app (ty:=zB5) zPo (some ⟨w.heap.size,0,none⟩) 1 1 [x] hr rfl (fun h=>by cases h) (by unfold maxLen;omega) (by omega) (by rw[zA];omega)
 have hb:Below w.heap.size w (w.alloc (.cells (LB.cl x).toArray TB_)):=(Below.refl _ _).alloc (Nat.le_refl _) _
 have hblk1:(w.alloc (.cells (LB.cl x).toArray TB_)).heap[R]? =some (.cells #[.slice a n c] TW (0,0)):=(hb.block R hR).trans h.blk
 have hne:=zT8 ho hblk1 (by decide)
 have hblk:w'.heap[R]? =some (.cells #[.slice a n c] TW (0,0)):=(h3.block R (zAd hblk1) (fun e=>hne e.symm)).trans hblk1
 refine⟨a',c',w',h1,hblk,⟨?_,?_⟩,⟨fun k h4 h5 h6=> ?_,?_⟩⟩
 ·simp[World.setCell,Array.getElem?_modify,hblk]
 ·exact World.ownsRow.kept h2 (zB1 w' R 0 _) (.inr (zT8 h2 hblk (by decide)))
 ·rw[zAa h5]
  refine(h3.block k (by rw[zA];omega) (fun e=> ?_)).trans (hb.block k h4)
  obtain⟨_,h7⟩:=h.own
  rcases h7 with⟨h7,_⟩|⟨g,cap,cur,hv,_,hg,_⟩
  ·injection h7 with h7 _ _
   subst h7
   simp[Value.ownBlock]at e
  ·injection hv with ha _ _
   subst ha
   simp[Value.ownBlock]at e
   subst e
   exact h6 _ _ hg
 ·refine((hb.mono (Nat.le_of_lt hR)).trans (Kit.zAq h3 (by rw[zA];omega) (fun k hk=> ?_))).setCell (p:=⟨R,0,none⟩) (Nat.le_refl _) _
  have:=ho.block k hk
  omega
theorem BW.one {W:World} {P:Nat} (h:BW W R a n c ls) (x:List Bool) (hl:n<=100000) (hP:W.heap[P]? =some (.cells (LB.cl x).toArray TB_ (0,0))):
  ∃a1 c1 w1 w2,(loadVar zB5 ⟨R,0,none⟩).run Tryz.prog W.drew= .ok (.slice a n c) W.drew/\
   (loadVar zB5 ⟨R,0,none⟩).run Tryz.prog (W.drew.alloc (.cells (LB.cl x).toArray TB_))= .ok (.slice a n c) (W.drew.alloc (.cells (LB.cl x).toArray TB_))/\
   (loadVar TB_ ⟨P,0,none⟩).run Tryz.prog W.drew= .ok (zAe x) W.drew/\
   (Builtin.append_ #[zB5,zB5] zB5 #[.slice a n c,.slice (some ⟨W.drew.heap.size,0,none⟩) 1 1]).run Tryz.prog (W.drew.alloc (.cells (LB.cl x).toArray TB_))= .ok (.slice a1 (n+1) c1) w1/\
   (storeVar zB5 ⟨R,0,none⟩ (.slice a1 (n+1) c1)).run Tryz.prog w1= .ok () w2/\BW w2 R a1 (n+1) c1 (ls++[x])/\StB W w2 R:=by
 obtain⟨a1,c1,w1,hr,hk,hq,hs⟩:=h.drew.push x hl
 have y0:W.drew.cell? ⟨R,0,none⟩=some (.slice a n c):=by simp[World.cell?,show W.drew.heap[R]? =_ from h.blk]
 have y1:w1.cell? ⟨R,0,none⟩=some (.slice a n c):=by simp[World.cell?,hk]
 have y2:w1.frozen? ⟨R,0,none⟩=false:=by simp[World.frozen?,hk]
 have hR:=h.lt
 refine⟨a1,c1,w1,_,Kit.zAg y0 (by kernel_rfl) (by kernel_rfl),Kit.zAg ((World.cell?_alloc_lt _ _ _ (by show R<_;exact hR)).trans y0) (by kernel_rfl) (by kernel_rfl),?_,hr,Kit.zDs y1 y2 (by kernel_rfl) rfl rfl,hq,?_⟩
 ·refine Kit.zHe (L:=LB) (x:=x) (fun i hi=> ?_) (fun w=>by kernel_rfl) (fun w=>by kernel_rfl)
  have hi2:i<2:=hi
  obtain rfl|rfl:i=0\/i=1:=by omega
  ·simp[World.cell?,show W.drew.heap[P]? =_ from hP]
  ·simp[World.cell?,show W.drew.heap[P]? =_ from hP]
 ·exact(StB.of_below (w':=W.drew) (Below.refl _ _).drew (Nat.le_of_lt hR)).trans hs
theorem zHk (R:Nat) (a:Option Addr) (n c:Nat) (ls:List (List Bool)) (x:List Bool) (e:Int) (w:World) (h:BW w R a n c ls) (hl:n<=100000):
  Calls Tryz.prog 72 #[.pointer (some ⟨R,0,none⟩),zAe x,.int .i64 e] w fun e w'=>e= .returned (.tuple #[])/\∃a' c',BW w' R a' (n+1) c' (ls++[x])/\StB w w' R:=by
 obtain⟨P,hP⟩:=zB w.heap.size
 obtain⟨W,hW⟩:=zB (w.alloc (.cells (LB.cl x).toArray TB_))
 have hb:Below P w W:=by rw[<-hW,<-hP];exact(Below.refl _ _).alloc (Nat.le_refl _) _
 have hx:W.heap[P]? =some (.cells (LB.cl x).toArray TB_ (0,0)):=by rw[<-hW,<-hP];exact zAh w _
 obtain⟨a1,c1,w1,w2,l0,l2,ld,hr,hst,hq,hs⟩:=(h.below hb hP.symm).one x hl hx
 have hRP:R<P:=by rw[<-hP];exact h.lt
 have L0:=zH l0
 have L2:=zH l2
 have LD:=zH ld
 have HR1:=zH hr
 have HST:=zH hst
 have HQ:=zH hq
 have HS:=zH ((StB.of_below (hP▸hb) (by omega)).trans hs)
 have HW:=zH hW
 have HP:=zH hP
 clear h hb hx l0 l2 ld hr hst hq hs hW hP
 unfold zAe at*
 go_enter Tryz.func72,Tryz.ntmps72
 go_wp2
 rw[HP.out,show w.alloc (.cells #[.string (pk x),.int .i64 (x.length:Int)] TB_)=W from HW.out]
 refine zS [7,10] (fun W'=>(loadVar 70 ⟨R,0,none⟩).run Tryz.prog W'= .ok (.slice a n c) W') [0,0,2,4,8,0,32,80,255,511,767] 11<|zu 0 6 (zP R 0)<|zu 1 7 (zP R 0)<|zu 2 8 (zP R 0)<|zu 3 9 (zP R 0)<|zy 4 10 (.slice a n c) (fun w hS=>zl 70 9 (hS)) L0.out<|zp [5]<|zt 11 (.agg #[.string (pk x),.int .i64 (x.length:Int)]) (zl 51 4 (LD.out))<|zn<| ?_
 refine Kit.zLe (w':=W.drew.alloc (.cells (LB.cl x).toArray TB_)) 6 (some 12) (.slice (some ⟨W.drew.heap.size,0,none⟩) 1 1) 127 (by kernel_rfl) (by kernel_rfl) rfl rfl (by kernel_rfl) (by kernel_rfl) (.inr (.inr (L2.out))) ?_
 refine zo 7 13 (.slice a1 (n+1) c1) (Kit.zHb (.tmp 10) (.tmp 12) 70 rfl (by kernel_rfl) (by kernel_rfl) HR1.out) (.inr (.inl (by kernel_rfl)))<|zp [8,9]<|zk 14 (zP R 0)<|zk 15 (zP R 0)<|zn<|zw 10 none (zr 70 15 13 (HST.out)) (.inr (.inl (by kernel_rfl)))<|zE<| ?_
 simp only[zP,zI,Act.put,List.setIfInBounds_toArray,List.set_cons_zero,List.set_cons_succ]
 go_wp2
 go_end0
 exact⟨rfl,_,_,HQ.out,HS.out⟩
theorem zSd (R:Nat) (a:Option Addr) (n c:Nat) (ls:List (List Bool)) (v k:Nat) (w:World) (h:BW w R a n c ls) (hl:n<=100000) (hv:v<18446744073709551616) (hk:k<=64):
  Calls Tryz.prog 71 #[.pointer (some ⟨R,0,none⟩),.int .u64 (v:Int),.int .i64 (k:Int)] w fun e w'=>e= .returned (.tuple #[])/\∃a' c',BW w' R a' (n+1) c' (ls++[num v k])/\StB w w' R:=by
 have hpt:=zJo [] v k w hv hk (by simp;omega)
 have HPT:=zH hpt
 obtain⟨x,hx⟩:=zB (num v k)
 rw[List.nil_append,hx]at HPT
 rw[hx]
 have H:=zH h
 have hb0:zAe []= .agg #[.string ⟨#[]⟩,.int .i64 0]:=rfl
 rw[hb0]at HPT
 unfold zAe at HPT
 clear hpt h hx hv hk hb0
 go_enter Tryz.func71,Tryz.ntmps71
 go_wp2_with fail
 (with_reducible refine HPT.out.mono ?_)
 rintro e w3 ⟨rfl,hb3⟩
 obtain⟨P,hP⟩:=zB w3.heap.size
 obtain⟨W,hW⟩:=zB (w3.alloc (.cells (LB.cl x).toArray TB_))
 have hb:Below P w3 W:=by rw[<-hW,<-hP];exact(Below.refl _ _).alloc (Nat.le_refl _) _
 have hxx:W.heap[P]? =some (.cells (LB.cl x).toArray TB_ (0,0)):=by rw[<-hW,<-hP];exact zAh w3 _
 have h3:=H.out.below hb3 rfl
 obtain⟨a1,c1,w1,w2,l0,l2,ld,hr,hst,hq,hs⟩:=(h3.below hb hP.symm).one x hl hxx
 have hRP:R<P:=by rw[<-hP];exact h3.lt
 have hRw:=H.out.lt
 have L0:=zH l0
 have L2:=zH l2
 have LD:=zH ld
 have HR1:=zH hr
 have HST:=zH hst
 have HQ:=zH hq
 have HS:=zH ((StB.of_below hb3 (by omega)).trans ((StB.of_below (hP▸hb) (by omega)).trans hs))
 have HW:=zH hW
 have HP:=zH hP
 clear hb hb3 h3 hxx l0 l2 ld hr hst hq hs hW hP HPT H
 unfold zAe at LD
 go_wp2
 rw[HP.out,show w3.alloc (.cells #[.string (pk x),.int .i64 (x.length:Int)] TB_)=W from HW.out]
 refine zS [7,10] (fun W'=>(loadVar 70 ⟨R,0,none⟩).run Tryz.prog W'= .ok (.slice a n c) W') [0,0,2,4,8,0,32,80,255,511,767] 11<|zu 0 15 (zP R 0)<|zu 1 16 (zP R 0)<|zu 2 17 (zP R 0)<|zu 3 18 (zP R 0)<|zy 4 19 (.slice a n c) (fun w hS=>zl 70 18 (hS)) L0.out<|zp [5]<|zt 20 (.agg #[.string (pk x),.int .i64 (x.length:Int)]) (zl 51 6 (LD.out))<|zn<| ?_
 refine Kit.zLe (w':=W.drew.alloc (.cells (LB.cl x).toArray TB_)) 6 (some 21) (.slice (some ⟨W.drew.heap.size,0,none⟩) 1 1) 127 (by kernel_rfl) (by kernel_rfl) rfl rfl (by kernel_rfl) (by kernel_rfl) (.inr (.inr (L2.out))) ?_
 refine zo 7 22 (.slice a1 (n+1) c1) (Kit.zHb (.tmp 19) (.tmp 21) 70 rfl (by kernel_rfl) (by kernel_rfl) HR1.out) (.inr (.inl (by kernel_rfl)))<|zp [8,9]<|zk 23 (zP R 0)<|zk 24 (zP R 0)<|zn<|zw 10 none (zr 70 24 22 (HST.out)) (.inr (.inl (by kernel_rfl)))<|zE<| ?_
 simp only[zP,zI,Act.put,List.setIfInBounds_toArray,List.set_cons_zero,List.set_cons_succ]
 go_wp2
 go_end0
 exact⟨rfl,_,_,HQ.out,HS.out⟩
end Bk
end Go.Proofs.YtppnakkaljbmbaaGreatDoor
