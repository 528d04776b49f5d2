/- Steps of a proof; no condition beyond what each states. -/
import Derived.Shelf.Small.Strs
import Derived.Shelf.Strconv.Atoi
import Derived.Shelf.Strconv.Itoa3
import Derived.Shelf.Strings.OnBuilder
import Derived.Shelf.Strings.Split
import Derived.Test.YtppnakkaljbmbaaGreatDoorZU29
set_option linter.unusedVariables false
set_option linter.unusedSimpArgs false
set_option maxRecDepth 100000
set_option maxHeartbeats 8000000
namespace Go.Proofs.YtppnakkaljbmbaaGreatDoor
namespace Bk
open Go.RowKit Hf Bt Zr Ix Front Wg Ch Sl Sq Us St Tn
variable {w w':World} {R D n c i:Nat} {e:TypeId} {a:Option Addr} {xs:List Value} {s:ByteArray} {l m:List Bool}
theorem zEl (h:Kit.Own w D e a n c xs) (hs:Upd w w' R) (hR:R<D):Kit.Own w' D e a n c xs:=
 zJs h (fun k h1 h2=>hs.old k h2 (by omega))
theorem zXz {p:Option Addr} {k:Nat} {vs:List Value} {gs:List (List Nat)} (h:Gr w D p k c vs gs) (hs:Upd w w' R) (hR:R<D):Gr w' D p k c vs gs:=
 ⟨zEl h.own hs hR,h.len,fun i g hg=>by
  obtain⟨G,c',h1,h2,h3⟩:=h.each i g hg
  exact⟨G,c',h1,h2,zEl h3 hs hR⟩⟩
theorem At.left (h:At s i (l++m)):At s i l:=(At.app.1 h).1
theorem At.right {j:Nat} (h:At s i (l++m)) (hj:i+l.length=j):At s j m:=hj▸(At.app.1 h).2
theorem At.bound (h:At s i l):i+l.length<=8*s.size:=h.1
theorem qFe (h:Kit.Own w D e a n c xs) (hs:∀b,b<w.heap.size->(∀cs f,w.heap[b]?≠some (.cells cs TL_ f))->w'.heap[b]? =w.heap[b]?) (he:e≠TL_):Kit.Own w' D e a n c xs:=by
 obtain⟨h1,h2⟩:=h
 refine⟨h1,?_⟩
 rcases h2 with h2|⟨g,cap,cur,hv,hbg,hg,r⟩
 ·exact .inl h2
 ·exact .inr ⟨g,cap,cur,hv,hbg,(hs g (zAd hg) (fun cs f e2=>by rw[hg]at e2;injection e2 with e2;injection e2 with _ e2 _;exact he e2)).trans hg,r⟩
theorem Upd.bel {w1:World} (h:Upd w w1 R) (hb:Below D w1 w') (hD:w.heap.size=D) (hR:R<D):Upd w w' R:=
 ⟨fun k h1 h2=>(hb.block k (by omega)).trans (h.old k h1 h2),h.below.trans (hb.mono (by omega))⟩
theorem zXu (R KG N i:Nat) (a:ByteArray) (c0:Option Addr) (cn0 cc0:Nat) (ch t0 t1:List Nat) (w:World) (h:RD w R ⟨a,i,none,0,0,c0,cn0,cc0,N⟩) (hs:a.size<=100000000) (hKG:ch.length=KG) (hK1:0<KG) (hK2:KG<=10000) (hch:∀x∈ch,x<=1) (h2:2<=N) (h258:N<=258)
  (hr0:Right t0) (hr1:Right t1) (hl0:t0.length=N) (hl1:t1.length=N) (ha:At a i (num 2 3++(num KG 15++(zAz false ch++(delta t0++delta t1))))):
  Calls Tryz.prog 317 #[.pointer (some ⟨R,0,none⟩)] w fun e w'=>∃tp tc vs cq cc,e= .returned (.tuple #[])/\RD w' R ⟨a,i+3+15+(zAz false ch).length+(delta t0).length+(delta t1).length,tp,2,tc,cq,KG,cc,N⟩/\
   Gr w' w.heap.size tp 2 tc vs [t0,t1]/\Kit.Own w' w.heap.size 3 cq KG cc (ch.map ival)/\Upd w w' R:=by
 have a1:=At.left ha
 have ha2:=At.right ha (j:=i+3) (by rw[zAc])
 have a2:=At.left ha2
 have ha3:=At.right ha2 (j:=i+3+15) (by rw[zAc])
 have a3:=At.left ha3
 have ha4:=At.right ha3 rfl
 have a4:=At.left ha4
 have a5:=At.right ha4 rfl
 have b1:=At.bound a1
 have b2:=At.bound a2
 have b3:=At.bound a3
 rw[zAc]at b1 b2
 have hb5e:=At.bound a5
 have hb4e:=At.bound a4
 have HP1:=zH (zFx R 3 2 ⟨a,i,none,0,0,c0,cn0,cc0,N⟩ 3 rfl w h (by omega) b1 hs (At.val a1 (by omega)))
 have HM:=zH (fun(e:Int) (w:World)=>zJv e w)
 have HO:=zH (fun(w:World)=>zPn w)
 have AT2:=zH (At.val a2 (by omega))
 have A3:=zH a3
 have A4:=zH a4
 have A5:=zH a5
 have HCH:=zH hch
 have HKG:=zH hKG
 have R0:=zH hr0
 have R1:=zH hr1
 have L0:=zH hl0
 have L1:=zH hl1
 obtain⟨E,hE⟩:=zB w.heap.size
 have hRE:R<E:=by rw[<-hE];exact h.lt
 have HE:=zH hE
 have hs8:8*a.size<=800000000:=by omega
 rw[hE]
 clear ha a1 ha2 a2 ha3 a3 ha4 a4 a5 h hch hKG hr0 hr1 hl0 hl1 hE
 go_enter Tryz.func317,Tryz.ntmps317
 go_wp2_with fail
 (with_reducible refine HP1.out.mono ?_)
 rintro e w1 ⟨rfl,hk,hu⟩
 have K1:=zH (show RD w1 R ⟨a,i+3,none,0,0,c0,cn0,cc0,N⟩from hk)
 have U1:=zH hu
 rw[show((2:Nat):Int)=(2:Int)from rfl]
 clear hk hu HP1
 go_wp2_with fail
 (with_reducible refine(HM.out _ _).mono ?_)
 rintro e w2 ⟨rfl,rfl⟩
 have HP2:=zH (zFx R 15 KG ⟨a,i+3,none,0,0,c0,cn0,cc0,N⟩ 15 rfl w2 K1.out (by omega) b2 hs AT2.out)
 go_wp2_with fail
 (with_reducible refine HP2.out.mono ?_)
 rintro e w3 ⟨rfl,hk,hu⟩
 have K3:=zH (show RD w3 R ⟨a,i+3+15,none,0,0,c0,cn0,cc0,N⟩from hk)
 have U3:=zH (U1.out.trans hu)
 have j1:decide ((0:Int)<(KG:Int))=true:=decide_eq_true (by omega)
 have j1':decide (0<KG)=true:=decide_eq_true hK1
 clear hk hu HP2 K1 U1
 go_wp2_with fail
 (with_reducible refine(HM.out _ _).mono ?_)
 rintro e w4 ⟨rfl,rfl⟩
 have RDD:=zH (show RD w4.drew R ⟨a,i+3+15,none,0,0,c0,cn0,cc0,N⟩from K3.out)
 have UD:=zH (U3.out.trans (Upd.drew w4 R))
 have HST:=zH (zOa a (i+3+15) ch KG w4.drew HKG.out hK2 hs HCH.out A3.out)
 clear K3 U3 j1 j1'
 go_wp2
 refine zS [] (fun _=>True) [0,1,2,4,8,0,32,64,128,256,0,0,3600,4096,8192,8192,8192,32767,196607,524287] 20<|zp [0,1,2,3,4,5,6,7,8,9,10,11]<|zk 29 (zP R 0)<|zk 30 (zP R 0)<|zk 31 (zP R 0)<|zk 32 (zP R 0)<|zt 33 (.string a) (zl 9 32 (RDD.out.l0))<|zk 34 (zP R 0)<|zk 35 (zP R 0)<|zk 36 (zP R 0)<|zk 37 (zP R 1)<|zt 38 (.int .i64 ((i+3+15:Nat):Int)) (zl 3 37 (RDD.out.l1))<|zk 39 (zI KG)<|zk 40 (.int .i64 2)<|zn<|zx 12 41 34 #[.string a,.int .i64 ((i+3+15:Nat):Int),.int .i64 (KG:Int),.int .i64 2] HST.out<| ?_
 rintro e w5 ⟨cq,cc,rfl,ho5,hb5⟩
 refine⟨_,rfl,.inr (.inr trivial),?_⟩
 refine zp [13,14,15,16,17,18,19]<|zk 28 (.tuple #[.slice cq KG cc,.int .i64 ((i+3+15+(zAz false ch).length:Nat):Int),.int .i64 0])<|zk 42 (.slice cq KG cc)<|zk 43 (.int .i64 ((i+3+15+(zAz false ch).length:Nat):Int))<|zk 44 (.int .i64 0)<|zk 4 (.slice cq KG cc)<|zk 5 (.int .i64 ((i+3+15+(zAz false ch).length:Nat):Int))<|zk 6 (.int .i64 0)<|zn<|zE<| ?_
 simp only[zP,zI,Act.put,List.setIfInBounds_toArray,List.set_cons_zero,List.set_cons_succ]
 have hRw:=RDD.out.lt
 have K5:=zH (RDD.out.below hb5)
 have U5:=zH (UD.out.trans (Upd.of_below hb5 (Nat.le_of_lt hRw)))
 have O5:=zH (ho5.base (B':=E) (by rw[<-HE.out];exact UD.out.size))
 clear hb5 ho5 HST RDD UD
 obtain⟨j,hj⟩:=zB (i+3+15+(zAz false ch).length)
 rw[hj]at A4 A5 hb4e hb5e
 rw[hj]
 have HJ:=zH hj
 clear hj
 have HCM:=zH (zIc R j _ w5 K5.out)
 go_wp2_with fail
 (with_reducible refine HCM.out.mono ?_)
 rintro e w6 ⟨rfl,hk,hu⟩
 have hk6:=hk
 have O6:=zH (zEl O5.out hu hRE)
 have U6:=zH (U5.out.trans hu)
 have x3:=hk6.c3
 have f3:=hk6.fr 3
 simp only at x3
 have K7:=zH (show RD (w6.setCell ⟨R,3,none⟩ (.slice cq KG cc)) R ⟨a,j,none,0,0,cq,KG,cc,N⟩from hk6.s3 cq KG cc)
 have O7:=zH (zCz (r:=R) (i:=3) O6.out hRE (.slice cq KG cc))
 have U7:=zH (U6.out.trans (Upd.set (i:=3) (v:= .slice cq KG cc)))
 clear hk hu hk6 K5 U5 O5 HCM O6 U6
 go_wp2
 go_loopw [56] (fun iv wr=>∃(k tc:Nat) (tp:Option Addr) (vs:List Value),k<=2/\iv= .int .i64 k/\RowKit.Hid (RD wr R ⟨a,j+(([t0,t1].take k).flatMap delta).length,tp,k,tc,cq,KG,cc,N⟩)/\RowKit.Hid (Gr wr E tp k tc vs ([t0,t1].take k))/\RowKit.Hid (Kit.Own wr E 3 cq KG cc (ch.map ival))/\RowKit.Hid (Upd w wr R)) (fun iv _=>2-(intOf iv).toNat)
 case atStart=>exact⟨0,0,none,[],by omega,rfl,K7,zH (Gr.start _ _),O7,U7⟩
 case round=>
  clear K7 O7 U7
  obtain⟨k,tc,tp,vs,hk2,rfl,hrd,hgr,hown,hupd⟩:=hrel
  by_cases hlt:k<2
  ·obtain⟨tk,hat,hrt,hlk,htk⟩:∃tk,At a (j+(([t0,t1].take k).flatMap delta).length) (delta tk)/\Right tk/\tk.length=N/\[t0,t1].take (k+1)=[t0,t1].take k++[tk]:=by
    obtain rfl|rfl:k=0\/k=1:=by omega
    ·exact⟨t0,A4.out,R0.out,L0.out,rfl⟩
    ·exact⟨t1,by simpa using A5.out,R1.out,L1.out,rfl⟩
   obtain⟨q,hq⟩:=zB (j+(([t0,t1].take k).flatMap delta).length)
   have HTK:=zH (And.intro htk (show j+(([t0,t1].take (k+1)).flatMap delta).length=q+(delta tk).length by rw[htk,List.flatMap_append,List.length_append,<-hq];simp;omega))
   rw[hq]at hat hrd
   have RDD:=zH (show RD wr.drew R ⟨a,q,tp,k,tc,cq,KG,cc,N⟩from hrd.out)
   have UD:=zH (hupd.out.trans (Upd.drew wr R))
   have GD:=zH (hgr.out.below (show Below wr.heap.size wr wr.drew from(Below.refl _ _).drew) (Nat.le_refl _))
   have OD:=zH (hown.out.below (show Below wr.heap.size wr wr.drew from(Below.refl _ _).drew) (Nat.le_refl _))
   have HDT:=zH (zI7 a q tk N wr.drew hlk h2 h258 hs (fun x hx=>⟨hrt.one x hx,hrt.top x hx⟩) hat)
   have HRT:=zH (And.intro hrt hlk)
   clear hrd hupd hgr hown hat htk hq hrt hlk
   go_wp2
   refine zS [] (fun _=>True) [0,1,2,4,8,0,32,64,128,256,0,1024,2048,4096,8720,16384,32768,32768,32768,131071,786431,2097151] 22<|zp [0,1,2,3,4,5,6,7,8,9,10,11,12,13]<|zk 59 (zP R 0)<|zk 60 (zP R 0)<|zk 61 (zP R 0)<|zk 62 (zP R 0)<|zt 63 (.string a) (zl 9 62 (RDD.out.l0))<|zk 64 (zP R 0)<|zk 65 (zP R 0)<|zk 66 (zP R 0)<|zk 67 (zP R 1)<|zt 68 (zI q) (zl 3 67 (RDD.out.l1))<|zk 69 (zP R 0)<|zk 70 (zP R 0)<|zk 71 (zP R 4)<|zt 72 (zI N) (zl 3 71 (RDD.out.l4))<|zn<|zx 14 73 35 #[.string a,.int .i64 ((q:Nat):Int),.int .i64 (N:Int)] HDT.out<| ?_
   rintro e w8 ⟨a2,c2,rfl,ho8,hb8⟩
   refine⟨_,rfl,.inr (.inr trivial),?_⟩
   refine zp [15,16,17,18,19,20,21]<|zk 58 (.tuple #[.slice a2 N c2,.int .i64 ((q+(delta tk).length:Nat):Int),.int .i64 0])<|zk 74 (.slice a2 N c2)<|zk 75 (.int .i64 ((q+(delta tk).length:Nat):Int))<|zk 76 (.int .i64 0)<|zk 7 (.slice a2 N c2)<|zk 8 (.int .i64 ((q+(delta tk).length:Nat):Int))<|zk 9 (.int .i64 0)<|zn<|zE<| ?_
   simp only[zP,zI,Act.put,List.setIfInBounds_toArray,List.set_cons_zero,List.set_cons_succ]
   have hRr:=RDD.out.lt
   have K8:=zH (RDD.out.below hb8)
   have U8:=zH (UD.out.trans (Upd.of_below hb8 (Nat.le_of_lt hRr)))
   have O8:=zH (OD.out.below hb8 (Nat.le_refl _))
   have G8:=zH (GD.out.below hb8 (Nat.le_refl _))
   have T8:=zH (ho8.base (B':=E) (by rw[<-HE.out];exact UD.out.size))
   clear hb8 ho8 HDT RDD UD GD OD hRr
   obtain⟨q2,hq2⟩:=zB (q+(delta tk).length)
   rw[hq2]at HTK
   rw[hq2]
   clear hq2
   have HCM:=zH (zIc R q2 _ w8 K8.out)
   go_wp2_with fail
   (with_reducible refine HCM.out.mono ?_)
   rintro e w9 ⟨rfl,hk,hu⟩
   have K9:=zH (show RD w9 R ⟨a,q2,tp,k,tc,cq,KG,cc,N⟩from hk)
   have U9:=zH (U8.out.trans hu)
   have O9:=zH (zEl O8.out hu hRE)
   have G9:=zH (zXz G8.out hu hRE)
   have T9:=zH (zEl T8.out hu hRE)
   clear hk hu HCM K8 U8 O8 G8 T8
   have HCK:=zH (zCk tk a2 N c2 w9 HRT.out.2 T9.out.src HRT.out.1)
   go_wp2_with fail
   (with_reducible refine HCK.out.mono ?_)
   rintro e w10 ⟨rfl,hb10⟩
   have K10:=zH (K9.out.below hb10)
   have U10:=zH (U9.out.trans (Upd.of_below hb10 (Nat.le_of_lt K9.out.lt)))
   have O10:=zH (O9.out.below hb10 (Nat.le_refl _))
   have G10:=zH (G9.out.below hb10 (Nat.le_refl _))
   have ho10:=T9.out.below hb10 (Nat.le_refl _)
   clear hb10 HCK K9 U9 O9 G9 T9
   go_wp2_with fail
   (with_reducible refine(HO.out _).mono ?_)
   rintro e w11 ⟨rfl,rfl⟩
   obtain⟨G,rfl,_,_,hNc,_,_⟩:=ho10.at_ (by omega)
   obtain⟨L,hL⟩:=zB tk.length
   obtain rfl:N=L:=by rw[<-hL];exact HRT.out.2.symm
   rw[<-hL]at ho10 hNc
   obtain⟨p2,tc2,w12,hr12,hg12,hb12,hk12⟩:=G10.out.app ho10 hNc (by omega) (by have:=U10.out.size;rw[HE.out]at this;exact this)
   rw[hL]at hr12 hg12
   have x2:=K10.out.c2
   simp only at x2
   have l2:=K10.out.l2
   simp only at l2
   have K12:=K10.out.keep (hb12.block R (by omega))
   have f2:=K12.fr 2
   have x2':=K12.c2
   simp only at x2'
   have K13:=zH (show RD (w12.setCell ⟨R,2,none⟩ (.slice p2 (k+1) tc2)) R ⟨a,q2,p2,k+1,tc2,cq,KG,cc,N⟩from K12.s2 p2 (k+1) tc2)
   have G13:=zH (hg12.set (B:=R) (i:=2) hRE (.slice p2 (k+1) tc2))
   have O13:=zH (zCz (r:=R) (i:=2) (qFe O10.out hk12 (by decide)) hRE (.slice p2 (k+1) tc2))
   have U13:=zH ((Upd.bel U10.out hb12 HE.out hRE).trans (Upd.set (i:=2) (v:= .slice p2 (k+1) tc2)))
   clear K12 K10 G10 O10 U10 hg12 hb12 hk12 ho10 hNc
   go_wp2_with (at_builtin;refine Kit.zAr rfl (.tmp 90) (.tmp 92) 60 rfl rfl rfl hr12 ?_)
   go_roundw
   case rel=>exact⟨k+1,tc2,p2,_,by omega,by go_num,by rw[HTK.out.2];exact K13,by rw[HTK.out.1];exact G13,O13,U13⟩
   case measure=>simp only[intOf];omega
  ·obtain rfl:k=2:=by omega
   rw[show((2:Nat):Int)=(2:Int)from rfl]
   go_wp2
   go_end0
   exact⟨_,_,_,_,_,rfl,by rw[HJ.out,Nat.add_assoc];simpa using hrd.out,hgr.out,hown.out,hupd.out⟩
end Bk
end Go.Proofs.YtppnakkaljbmbaaGreatDoor
section
namespace Go.Proofs
open Go.Shelf
def Tryz.zKl:Go.Shelf.Ren:=⟨fun|156=>275|165=>311|166=>62|169=>63|240=>140|241=>335|276=>190|277=>355|n=>n,fun|31=>49|9=>9|3=>3|4=>4|0=>0|20=>20|72=>120|76=>125|70=>118|37=>109|75=>124|127=>240|164=>318|5=>5|80=>127|n=>n,fun|n=>n⟩
theorem Tryz.qDk:Go.Proofs.Lays.n156 Tryz.prog Tryz.zKl:={
 mixed:=by kernel_rfl
 f156:=Tryz.func275.trans (congrArg some (by kernel_rfl))
 f165:=Tryz.func311.trans (congrArg some (by kernel_rfl))
 f166:=Tryz.func62.trans (congrArg some (by kernel_rfl))
 f169:=Tryz.func63.trans (congrArg some (by kernel_rfl))
 f240:=Tryz.func140.trans (congrArg some (by kernel_rfl))
 f241:=Tryz.func335.trans (congrArg some (by kernel_rfl))
 f276:=Tryz.func190.trans (congrArg some (by kernel_rfl))
 f277:=Tryz.func355.trans (congrArg some (by kernel_rfl))
 t0:=Tryz.underlying0
 a0:=Tryz.isAgg0
 z0:=Tryz.sizeOf0
 v0:=Tryz.zeroValue0
 t3:=Tryz.underlying3
 a3:=Tryz.isAgg3
 z3:=Tryz.sizeOf3
 v3:=Tryz.zeroValue3
 t4:=Tryz.underlying4
 a4:=Tryz.isAgg4
 z4:=Tryz.sizeOf4
 v4:=Tryz.zeroValue4
 t9:=Tryz.underlying9
 a9:=Tryz.isAgg9
 z9:=Tryz.sizeOf9
 v9:=Tryz.zeroValue9
 t20:=Tryz.underlying20
 a20:=Tryz.isAgg20
 z20:=Tryz.sizeOf20
 v20:=Tryz.zeroValue20
 t31:=Tryz.underlying49
 a31:=Tryz.isAgg49
 z31:=Tryz.sizeOf49
 v31:=Tryz.zeroValue49
 t37:=Tryz.underlying109
 a37:=Tryz.isAgg109
 z37:=Tryz.sizeOf109
 v37:=Tryz.zeroValue109
 t70:=Tryz.underlying118
 a70:=Tryz.isAgg118
 z70:=Tryz.sizeOf118
 v70:=Tryz.zeroValue118
 t72:=Tryz.underlying120
 a72:=Tryz.isAgg120
 z72:=Tryz.sizeOf120
 v72:=Tryz.zeroValue120
 t75:=Tryz.underlying124
 a75:=Tryz.isAgg124
 z75:=Tryz.sizeOf124
 v75:=Tryz.zeroValue124
 t76:=Tryz.underlying125
 a76:=Tryz.isAgg125
 z76:=Tryz.sizeOf125
 v76:=Tryz.zeroValue125
 t127:=Tryz.underlying240
 a127:=Tryz.isAgg240
 z127:=Tryz.sizeOf240
 v127:=Tryz.zeroValue240
 t164:=Tryz.underlying318
 a164:=Tryz.isAgg318
 z164:=Tryz.sizeOf318
 v164:=Tryz.zeroValue318}
theorem Tryz.zKc:Builder.Extra Tryz.prog Tryz.zKl:={
 sizeBuilder:=by kernel_rfl
 liesBuilder:=by kernel_rfl
 t5:=Tryz.underlying5
 a5:=Tryz.isAgg5
 z5:=Tryz.sizeOf5
 v5:=Tryz.zeroValue5
 infoByte:=by kernel_rfl
 cellsByte:=by kernel_rfl
 sizeByte:=by kernel_rfl
 neB5:=by decide}
open Go.RowKit in
theorem Tryz.strings_Join (bk o c:Nat) (xs:List ByteArray) (sep:ByteArray) (w:World) (hcells:∀(j:Nat) x,xs[j]? =some x->w.cell? ⟨bk,o+j,none⟩=some (.string x)) (hbk:bk<w.heap.size) (hN:xs.length<=140737488355328) (hcap:xs.length<=c) (hlen:(Lib.join (xs.map (·.data.toList)) sep.data.toList).length<=140737488355328):
  Calls Tryz.prog 275 #[.slice (some ⟨bk,o,none⟩) xs.length c,.string sep] w fun e w'=>e= .returned (.string ⟨(Lib.join (xs.map (·.data.toList)) sep.data.toList).toArray⟩)/\Below w.heap.size w w':=Any.strings_Join Tryz.qDk Tryz.zKc bk o c xs sep w hcells hbk hN hcap hlen
def Tryz.zSx:Go.Shelf.Ren:=⟨fun|137=>272|217=>300|266=>326|n=>n,fun|9=>9|5=>5|3=>3|n=>n,fun|n=>n⟩
theorem Tryz.qDm:Go.Proofs.Lays.n137 Tryz.prog Tryz.zSx:={
 mixed:=by kernel_rfl
 f137:=Tryz.func272.trans (congrArg some (by kernel_rfl))
 f217:=Tryz.func300.trans (congrArg some (by kernel_rfl))
 f266:=Tryz.func326.trans (congrArg some (by kernel_rfl))
 t3:=Tryz.underlying3
 a3:=Tryz.isAgg3
 z3:=Tryz.sizeOf3
 v3:=Tryz.zeroValue3
 t5:=Tryz.underlying5
 a5:=Tryz.isAgg5
 z5:=Tryz.sizeOf5
 v5:=Tryz.zeroValue5
 t9:=Tryz.underlying9
 a9:=Tryz.isAgg9
 z9:=Tryz.sizeOf9
 v9:=Tryz.zeroValue9}
open Go.RowKit in
theorem Tryz.strings_IndexByte (s:ByteArray) (c:Int) (w:World):
  Calls Tryz.prog 272 #[.string s,.int .u8 c] w fun e w'=>e= .returned (.int .i64 (Lib.indexByte s.data.toList c.toNat.toUInt8))/\w'=w:=Any.strings_IndexByte Tryz.qDm s c w
def Tryz.zSt:Go.Shelf.Ren:=⟨fun|172=>226|244=>269|245=>270|247=>304|279=>305|280=>306|281=>307|282=>308|287=>328|316=>329|171=>227|205=>330|321=>349|322=>350|243=>271|246=>309|283=>331|284=>332|285=>333|286=>334|129=>241|317=>351|318=>352|319=>353|320=>354|337=>361|338=>362|n=>n,fun|9=>9|3=>3|75=>124|76=>125|4=>4|5=>5|167=>425|37=>109|0=>0|85=>426|2=>2|168=>428|53=>64|175=>449|46=>178|210=>452|127=>240|145=>474|143=>472|21=>21|171=>454|173=>456|212=>476|51=>65|20=>20|213=>477|232=>496|233=>497|80=>127|n=>n,fun|15=>3|16=>4|17=>5|18=>7|19=>8|n=>n⟩
theorem Tryz.qDg:Go.Proofs.Lays.n172 Tryz.prog Tryz.zSt:={
 mixed:=by kernel_rfl
 f129:=Tryz.func241.trans (congrArg some (by kernel_rfl))
 f171:=Tryz.func227.trans (congrArg some (by kernel_rfl))
 f172:=Tryz.func226.trans (congrArg some (by kernel_rfl))
 f205:=Tryz.func330.trans (congrArg some (by kernel_rfl))
 f243:=Tryz.func271.trans (congrArg some (by kernel_rfl))
 f244:=Tryz.func269.trans (congrArg some (by kernel_rfl))
 f245:=Tryz.func270.trans (congrArg some (by kernel_rfl))
 f246:=Tryz.func309.trans (congrArg some (by kernel_rfl))
 f247:=Tryz.func304.trans (congrArg some (by kernel_rfl))
 f279:=Tryz.func305.trans (congrArg some (by kernel_rfl))
 f280:=Tryz.func306.trans (congrArg some (by kernel_rfl))
 f281:=Tryz.func307.trans (congrArg some (by kernel_rfl))
 f282:=Tryz.func308.trans (congrArg some (by kernel_rfl))
 f283:=Tryz.func331.trans (congrArg some (by kernel_rfl))
 f284:=Tryz.func332.trans (congrArg some (by kernel_rfl))
 f285:=Tryz.func333.trans (congrArg some (by kernel_rfl))
 f286:=Tryz.func334.trans (congrArg some (by kernel_rfl))
 f287:=Tryz.func328.trans (congrArg some (by kernel_rfl))
 f316:=Tryz.func329.trans (congrArg some (by kernel_rfl))
 f317:=Tryz.func351.trans (congrArg some (by kernel_rfl))
 f318:=Tryz.func352.trans (congrArg some (by kernel_rfl))
 f319:=Tryz.func353.trans (congrArg some (by kernel_rfl))
 f320:=Tryz.func354.trans (congrArg some (by kernel_rfl))
 f321:=Tryz.func349.trans (congrArg some (by kernel_rfl))
 f322:=Tryz.func350.trans (congrArg some (by kernel_rfl))
 f337:=Tryz.func361.trans (congrArg some (by kernel_rfl))
 f338:=Tryz.func362.trans (congrArg some (by kernel_rfl))
 t0:=Tryz.underlying0
 a0:=Tryz.isAgg0
 z0:=Tryz.sizeOf0
 v0:=Tryz.zeroValue0
 t2:=Tryz.underlying2
 a2:=Tryz.isAgg2
 z2:=Tryz.sizeOf2
 v2:=Tryz.zeroValue2
 t3:=Tryz.underlying3
 a3:=Tryz.isAgg3
 z3:=Tryz.sizeOf3
 v3:=Tryz.zeroValue3
 t4:=Tryz.underlying4
 a4:=Tryz.isAgg4
 z4:=Tryz.sizeOf4
 v4:=Tryz.zeroValue4
 t5:=Tryz.underlying5
 a5:=Tryz.isAgg5
 z5:=Tryz.sizeOf5
 v5:=Tryz.zeroValue5
 t9:=Tryz.underlying9
 a9:=Tryz.isAgg9
 z9:=Tryz.sizeOf9
 v9:=Tryz.zeroValue9
 t20:=Tryz.underlying20
 a20:=Tryz.isAgg20
 z20:=Tryz.sizeOf20
 v20:=Tryz.zeroValue20
 t21:=Tryz.underlying21
 a21:=Tryz.isAgg21
 z21:=Tryz.sizeOf21
 v21:=Tryz.zeroValue21
 t37:=Tryz.underlying109
 a37:=Tryz.isAgg109
 z37:=Tryz.sizeOf109
 v37:=Tryz.zeroValue109
 t46:=Tryz.underlying178
 a46:=Tryz.isAgg178
 z46:=Tryz.sizeOf178
 v46:=Tryz.zeroValue178
 t51:=Tryz.underlying65
 a51:=Tryz.isAgg65
 z51:=Tryz.sizeOf65
 v51:=Tryz.zeroValue65
 t53:=Tryz.underlying64
 a53:=Tryz.isAgg64
 z53:=Tryz.sizeOf64
 v53:=Tryz.zeroValue64
 t75:=Tryz.underlying124
 a75:=Tryz.isAgg124
 z75:=Tryz.sizeOf124
 v75:=Tryz.zeroValue124
 t76:=Tryz.underlying125
 a76:=Tryz.isAgg125
 z76:=Tryz.sizeOf125
 v76:=Tryz.zeroValue125
 t85:=Tryz.underlying426
 a85:=Tryz.isAgg426
 z85:=Tryz.sizeOf426
 v85:=Tryz.zeroValue426
 t127:=Tryz.underlying240
 a127:=Tryz.isAgg240
 z127:=Tryz.sizeOf240
 v127:=Tryz.zeroValue240
 t143:=Tryz.underlying472
 a143:=Tryz.isAgg472
 z143:=Tryz.sizeOf472
 v143:=Tryz.zeroValue472
 t145:=Tryz.underlying474
 a145:=Tryz.isAgg474
 z145:=Tryz.sizeOf474
 v145:=Tryz.zeroValue474
 t167:=Tryz.underlying425
 a167:=Tryz.isAgg425
 z167:=Tryz.sizeOf425
 v167:=Tryz.zeroValue425
 t168:=Tryz.underlying428
 a168:=Tryz.isAgg428
 z168:=Tryz.sizeOf428
 v168:=Tryz.zeroValue428
 t171:=Tryz.underlying454
 a171:=Tryz.isAgg454
 z171:=Tryz.sizeOf454
 v171:=Tryz.zeroValue454
 t173:=Tryz.underlying456
 a173:=Tryz.isAgg456
 z173:=Tryz.sizeOf456
 v173:=Tryz.zeroValue456
 t175:=Tryz.underlying449
 a175:=Tryz.isAgg449
 z175:=Tryz.sizeOf449
 v175:=Tryz.zeroValue449
 t210:=Tryz.underlying452
 a210:=Tryz.isAgg452
 z210:=Tryz.sizeOf452
 v210:=Tryz.zeroValue452
 t212:=Tryz.underlying476
 a212:=Tryz.isAgg476
 z212:=Tryz.sizeOf476
 v212:=Tryz.zeroValue476
 t213:=Tryz.underlying477
 a213:=Tryz.isAgg477
 z213:=Tryz.sizeOf477
 t232:=Tryz.underlying496
 a232:=Tryz.isAgg496
 z232:=Tryz.sizeOf496
 v232:=Tryz.zeroValue496
 t233:=Tryz.underlying497
 a233:=Tryz.isAgg497
 z233:=Tryz.sizeOf497
 v233:=Tryz.zeroValue497
 g15:=by kernel_rfl
 g16:=by kernel_rfl
 g17:=by kernel_rfl
 g18:=by kernel_rfl
 g19:=by kernel_rfl}
open Go.RowKit in
theorem Tryz.strconv_Atoi (s:ByteArray) (n:Int) (hl:s.size<=18) (h:Lib.atoi s.data.toList=some n) (w:World):
  Calls Tryz.prog 226 #[.string s] w fun e w'=>e= .returned (.tuple #[.int .i64 n,.nilIface])/\∃t,w'=Lib.bytesWorld w 5 t:=Any.strconv_Atoi Tryz.qDg s n hl h w
def Tryz.zSu:Go.Shelf.Ren:=⟨fun|171=>227|243=>271|246=>309|283=>331|284=>332|285=>333|286=>334|129=>241|317=>351|318=>352|319=>353|320=>354|337=>361|338=>362|n=>n,fun|3=>3|9=>9|2=>2|4=>4|171=>454|0=>0|53=>64|37=>109|5=>5|173=>456|212=>476|51=>65|20=>20|213=>477|46=>178|232=>496|233=>497|n=>n,fun|17=>5|18=>7|19=>8|n=>n⟩
theorem Tryz.qDh:Go.Proofs.Lays.n171 Tryz.prog Tryz.zSu:={
 mixed:=by kernel_rfl
 f129:=Tryz.func241.trans (congrArg some (by kernel_rfl))
 f171:=Tryz.func227.trans (congrArg some (by kernel_rfl))
 f243:=Tryz.func271.trans (congrArg some (by kernel_rfl))
 f246:=Tryz.func309.trans (congrArg some (by kernel_rfl))
 f283:=Tryz.func331.trans (congrArg some (by kernel_rfl))
 f284:=Tryz.func332.trans (congrArg some (by kernel_rfl))
 f285:=Tryz.func333.trans (congrArg some (by kernel_rfl))
 f286:=Tryz.func334.trans (congrArg some (by kernel_rfl))
 f317:=Tryz.func351.trans (congrArg some (by kernel_rfl))
 f318:=Tryz.func352.trans (congrArg some (by kernel_rfl))
 f319:=Tryz.func353.trans (congrArg some (by kernel_rfl))
 f320:=Tryz.func354.trans (congrArg some (by kernel_rfl))
 f337:=Tryz.func361.trans (congrArg some (by kernel_rfl))
 f338:=Tryz.func362.trans (congrArg some (by kernel_rfl))
 t0:=Tryz.underlying0
 a0:=Tryz.isAgg0
 z0:=Tryz.sizeOf0
 v0:=Tryz.zeroValue0
 t2:=Tryz.underlying2
 a2:=Tryz.isAgg2
 z2:=Tryz.sizeOf2
 v2:=Tryz.zeroValue2
 t3:=Tryz.underlying3
 a3:=Tryz.isAgg3
 z3:=Tryz.sizeOf3
 v3:=Tryz.zeroValue3
 t4:=Tryz.underlying4
 a4:=Tryz.isAgg4
 z4:=Tryz.sizeOf4
 v4:=Tryz.zeroValue4
 t5:=Tryz.underlying5
 a5:=Tryz.isAgg5
 z5:=Tryz.sizeOf5
 v5:=Tryz.zeroValue5
 t9:=Tryz.underlying9
 a9:=Tryz.isAgg9
 z9:=Tryz.sizeOf9
 v9:=Tryz.zeroValue9
 t20:=Tryz.underlying20
 a20:=Tryz.isAgg20
 z20:=Tryz.sizeOf20
 v20:=Tryz.zeroValue20
 t37:=Tryz.underlying109
 a37:=Tryz.isAgg109
 z37:=Tryz.sizeOf109
 v37:=Tryz.zeroValue109
 t46:=Tryz.underlying178
 a46:=Tryz.isAgg178
 z46:=Tryz.sizeOf178
 v46:=Tryz.zeroValue178
 t51:=Tryz.underlying65
 a51:=Tryz.isAgg65
 z51:=Tryz.sizeOf65
 v51:=Tryz.zeroValue65
 t53:=Tryz.underlying64
 a53:=Tryz.isAgg64
 z53:=Tryz.sizeOf64
 v53:=Tryz.zeroValue64
 t171:=Tryz.underlying454
 a171:=Tryz.isAgg454
 z171:=Tryz.sizeOf454
 v171:=Tryz.zeroValue454
 t173:=Tryz.underlying456
 a173:=Tryz.isAgg456
 z173:=Tryz.sizeOf456
 v173:=Tryz.zeroValue456
 t212:=Tryz.underlying476
 a212:=Tryz.isAgg476
 z212:=Tryz.sizeOf476
 v212:=Tryz.zeroValue476
 t213:=Tryz.underlying477
 a213:=Tryz.isAgg477
 z213:=Tryz.sizeOf477
 t232:=Tryz.underlying496
 a232:=Tryz.isAgg496
 z232:=Tryz.sizeOf496
 v232:=Tryz.zeroValue496
 t233:=Tryz.underlying497
 a233:=Tryz.isAgg497
 z233:=Tryz.sizeOf497
 v233:=Tryz.zeroValue497
 g17:=by kernel_rfl
 g18:=by kernel_rfl
 g19:=by kernel_rfl}
open Go.RowKit Go.Sort Go.Lib in
theorem Tryz.strconv_Itoa_small (i:Nat) (hi:i<100) (w:World):
  Calls Tryz.prog 227 #[.int .i64 i] w fun e w'=>e= .returned (.string ⟨(Lib.decDigits i).toArray⟩)/\w'=w:=Any.strconv_Itoa_small Tryz.qDh i hi w
def Tryz.zU5:Go.Shelf.Ren:=⟨fun|99=>283|206=>314|n=>n,fun|9=>9|4=>4|3=>3|n=>n,fun|n=>n⟩
theorem Tryz.qFr:Go.Proofs.Lays.n99 Tryz.prog Tryz.zU5:={
 mixed:=by kernel_rfl
 f99:=Tryz.func283.trans (congrArg some (by kernel_rfl))
 f206:=Tryz.func314.trans (congrArg some (by kernel_rfl))
 t3:=Tryz.underlying3
 a3:=Tryz.isAgg3
 z3:=Tryz.sizeOf3
 v3:=Tryz.zeroValue3
 t4:=Tryz.underlying4
 a4:=Tryz.isAgg4
 z4:=Tryz.sizeOf4
 v4:=Tryz.zeroValue4
 t9:=Tryz.underlying9
 a9:=Tryz.isAgg9
 z9:=Tryz.sizeOf9
 v9:=Tryz.zeroValue9}
open Go.RowKit Go.Lib in
theorem Tryz.strings_HasPrefix (s p:ByteArray) (w:World):
  Calls Tryz.prog 283 #[.string s,.string p] w fun e w'=>e= .returned (.bool (Lib.hasPrefix s.data.toList p.data.toList))/\w'=w:=Any.strings_HasPrefix Tryz.qFr s p w
def Tryz.zS2:Go.Shelf.Ren:=⟨fun|102=>122|209=>174|207=>230|n=>n,fun|9=>9|4=>4|3=>3|n=>n,fun|n=>n⟩
theorem Tryz.qDr:Go.Proofs.Lays.n102 Tryz.prog Tryz.zS2:={
 mixed:=by kernel_rfl
 f102:=Tryz.func122.trans (congrArg some (by kernel_rfl))
 f207:=Tryz.func230.trans (congrArg some (by kernel_rfl))
 f209:=Tryz.func174.trans (congrArg some (by kernel_rfl))
 t3:=Tryz.underlying3
 a3:=Tryz.isAgg3
 z3:=Tryz.sizeOf3
 v3:=Tryz.zeroValue3
 t4:=Tryz.underlying4
 a4:=Tryz.isAgg4
 z4:=Tryz.sizeOf4
 v4:=Tryz.zeroValue4
 t9:=Tryz.underlying9
 a9:=Tryz.isAgg9
 z9:=Tryz.sizeOf9
 v9:=Tryz.zeroValue9}
open Go.RowKit Go.Lib in
theorem Tryz.strings_TrimSuffix (s p:ByteArray) (w:World) (hs:s.size<=9223372036854775807):
  Calls Tryz.prog 122 #[.string s,.string p] w fun e w'=>e= .returned (.string ⟨(Lib.trimSuffix s.data.toList p.data.toList).toArray⟩)/\w'=w:=Any.strings_TrimSuffix Tryz.qDr s p w hs
def Tryz.zSr:Go.Shelf.Ren:=⟨fun|221=>169|268=>207|138=>208|143=>209|195=>262|197=>263|218=>264|219=>265|260=>299|217=>300|225=>301|224=>302|267=>303|266=>326|314=>327|n=>n,fun|9=>9|3=>3|31=>49|4=>4|0=>0|105=>376|21=>21|5=>5|46=>178|119=>443|139=>446|138=>445|146=>447|51=>65|n=>n,fun|1=>0|3=>1|4=>2|n=>n⟩
theorem Tryz.qDe:Go.Proofs.Lays.n221 Tryz.prog Tryz.zSr:={
 mixed:=by kernel_rfl
 f138:=Tryz.func208.trans (congrArg some (by kernel_rfl))
 f143:=Tryz.func209.trans (congrArg some (by kernel_rfl))
 f195:=Tryz.func262.trans (congrArg some (by kernel_rfl))
 f197:=Tryz.func263.trans (congrArg some (by kernel_rfl))
 f217:=Tryz.func300.trans (congrArg some (by kernel_rfl))
 f218:=Tryz.func264.trans (congrArg some (by kernel_rfl))
 f219:=Tryz.func265.trans (congrArg some (by kernel_rfl))
 f221:=Tryz.func169.trans (congrArg some (by kernel_rfl))
 f224:=Tryz.func302.trans (congrArg some (by kernel_rfl))
 f225:=Tryz.func301.trans (congrArg some (by kernel_rfl))
 f260:=Tryz.func299.trans (congrArg some (by kernel_rfl))
 f266:=Tryz.func326.trans (congrArg some (by kernel_rfl))
 f267:=Tryz.func303.trans (congrArg some (by kernel_rfl))
 f268:=Tryz.func207.trans (congrArg some (by kernel_rfl))
 f314:=Tryz.func327.trans (congrArg some (by kernel_rfl))
 t0:=Tryz.underlying0
 a0:=Tryz.isAgg0
 z0:=Tryz.sizeOf0
 v0:=Tryz.zeroValue0
 t3:=Tryz.underlying3
 a3:=Tryz.isAgg3
 z3:=Tryz.sizeOf3
 v3:=Tryz.zeroValue3
 t4:=Tryz.underlying4
 a4:=Tryz.isAgg4
 z4:=Tryz.sizeOf4
 v4:=Tryz.zeroValue4
 t5:=Tryz.underlying5
 a5:=Tryz.isAgg5
 z5:=Tryz.sizeOf5
 v5:=Tryz.zeroValue5
 t9:=Tryz.underlying9
 a9:=Tryz.isAgg9
 z9:=Tryz.sizeOf9
 v9:=Tryz.zeroValue9
 t21:=Tryz.underlying21
 a21:=Tryz.isAgg21
 z21:=Tryz.sizeOf21
 v21:=Tryz.zeroValue21
 t31:=Tryz.underlying49
 a31:=Tryz.isAgg49
 z31:=Tryz.sizeOf49
 v31:=Tryz.zeroValue49
 t46:=Tryz.underlying178
 a46:=Tryz.isAgg178
 z46:=Tryz.sizeOf178
 v46:=Tryz.zeroValue178
 t51:=Tryz.underlying65
 a51:=Tryz.isAgg65
 z51:=Tryz.sizeOf65
 v51:=Tryz.zeroValue65
 t105:=Tryz.underlying376
 a105:=Tryz.isAgg376
 z105:=Tryz.sizeOf376
 v105:=Tryz.zeroValue376
 t119:=Tryz.underlying443
 a119:=Tryz.isAgg443
 z119:=Tryz.sizeOf443
 t138:=Tryz.underlying445
 a138:=Tryz.isAgg445
 z138:=Tryz.sizeOf445
 v138:=Tryz.zeroValue445
 t139:=Tryz.underlying446
 a139:=Tryz.isAgg446
 z139:=Tryz.sizeOf446
 v139:=Tryz.zeroValue446
 t146:=Tryz.underlying447
 a146:=Tryz.isAgg447
 z146:=Tryz.sizeOf447
 v146:=Tryz.zeroValue447
 g1:=by kernel_rfl
 g3:=by kernel_rfl
 g4:=by kernel_rfl}
open Go.RowKit Go.Lib in
theorem Tryz.strings_genSplit (s sep:ByteArray) (sv:Nat) (n:Int) (N:Nat) (m:Int) (w:World) (hs:s.size<4294967281) (hm:w.cell? ⟨0,0,none⟩=some (.int .i64 m)) (h1:1<=sep.size) (hsv:sv<=sep.size) (hn0:n≠0) (hn63:n<=9223372036854775807) (hN:(N:Int)=min (if n<0 then(Lib.countB s sep:Int)+1 else n) ((s.size:Int)+1)):
  Calls Tryz.prog 169 #[.string s,.string sep,.int .i64 sv,.int .i64 n] w fun e w'=>
   e= .returned (.slice (some ⟨w.heap.size,0,none⟩) (Lib.splitB sep sv (N-1) s).length N)/\w'=w.alloc (.cells (Lib.cellsOf (Lib.splitB sep sv (N-1) s) N) 9):=Any.strings_genSplit Tryz.qDe (by kernel_rfl) s sep sv n N m w hs hm h1 hsv hn0 hn63 hN
def Tryz.zSw:Go.Shelf.Ren:=⟨fun|146=>170|221=>169|268=>207|138=>208|143=>209|195=>262|197=>263|218=>264|219=>265|260=>299|217=>300|225=>301|224=>302|267=>303|266=>326|314=>327|n=>n,fun|9=>9|31=>49|3=>3|4=>4|0=>0|105=>376|21=>21|5=>5|46=>178|119=>443|139=>446|138=>445|146=>447|51=>65|n=>n,fun|1=>0|3=>1|4=>2|n=>n⟩
theorem Tryz.qDl:Go.Proofs.Lays.n146 Tryz.prog Tryz.zSw:={
 mixed:=by kernel_rfl
 f138:=Tryz.func208.trans (congrArg some (by kernel_rfl))
 f143:=Tryz.func209.trans (congrArg some (by kernel_rfl))
 f146:=Tryz.func170.trans (congrArg some (by kernel_rfl))
 f195:=Tryz.func262.trans (congrArg some (by kernel_rfl))
 f197:=Tryz.func263.trans (congrArg some (by kernel_rfl))
 f217:=Tryz.func300.trans (congrArg some (by kernel_rfl))
 f218:=Tryz.func264.trans (congrArg some (by kernel_rfl))
 f219:=Tryz.func265.trans (congrArg some (by kernel_rfl))
 f221:=Tryz.func169.trans (congrArg some (by kernel_rfl))
 f224:=Tryz.func302.trans (congrArg some (by kernel_rfl))
 f225:=Tryz.func301.trans (congrArg some (by kernel_rfl))
 f260:=Tryz.func299.trans (congrArg some (by kernel_rfl))
 f266:=Tryz.func326.trans (congrArg some (by kernel_rfl))
 f267:=Tryz.func303.trans (congrArg some (by kernel_rfl))
 f268:=Tryz.func207.trans (congrArg some (by kernel_rfl))
 f314:=Tryz.func327.trans (congrArg some (by kernel_rfl))
 t0:=Tryz.underlying0
 a0:=Tryz.isAgg0
 z0:=Tryz.sizeOf0
 v0:=Tryz.zeroValue0
 t3:=Tryz.underlying3
 a3:=Tryz.isAgg3
 z3:=Tryz.sizeOf3
 v3:=Tryz.zeroValue3
 t4:=Tryz.underlying4
 a4:=Tryz.isAgg4
 z4:=Tryz.sizeOf4
 v4:=Tryz.zeroValue4
 t5:=Tryz.underlying5
 a5:=Tryz.isAgg5
 z5:=Tryz.sizeOf5
 v5:=Tryz.zeroValue5
 t9:=Tryz.underlying9
 a9:=Tryz.isAgg9
 z9:=Tryz.sizeOf9
 v9:=Tryz.zeroValue9
 t21:=Tryz.underlying21
 a21:=Tryz.isAgg21
 z21:=Tryz.sizeOf21
 v21:=Tryz.zeroValue21
 t31:=Tryz.underlying49
 a31:=Tryz.isAgg49
 z31:=Tryz.sizeOf49
 v31:=Tryz.zeroValue49
 t46:=Tryz.underlying178
 a46:=Tryz.isAgg178
 z46:=Tryz.sizeOf178
 v46:=Tryz.zeroValue178
 t51:=Tryz.underlying65
 a51:=Tryz.isAgg65
 z51:=Tryz.sizeOf65
 v51:=Tryz.zeroValue65
 t105:=Tryz.underlying376
 a105:=Tryz.isAgg376
 z105:=Tryz.sizeOf376
 v105:=Tryz.zeroValue376
 t119:=Tryz.underlying443
 a119:=Tryz.isAgg443
 z119:=Tryz.sizeOf443
 t138:=Tryz.underlying445
 a138:=Tryz.isAgg445
 z138:=Tryz.sizeOf445
 v138:=Tryz.zeroValue445
 t139:=Tryz.underlying446
 a139:=Tryz.isAgg446
 z139:=Tryz.sizeOf446
 v139:=Tryz.zeroValue446
 t146:=Tryz.underlying447
 a146:=Tryz.isAgg447
 z146:=Tryz.sizeOf447
 v146:=Tryz.zeroValue447
 g1:=by kernel_rfl
 g3:=by kernel_rfl
 g4:=by kernel_rfl}
open Go.RowKit Go.Lib in
theorem Tryz.strings_Split (s sep:ByteArray) (m:Int) (w:World) (hs:s.size<4294967281) (hm:w.cell? ⟨0,0,none⟩=some (.int .i64 m)) (h1:1<=sep.size):
  Calls Tryz.prog 170 #[.string s,.string sep] w fun e w'=>
   e= .returned (.slice (some ⟨w.heap.size,0,none⟩) (Lib.countB s sep+1) (Lib.countB s sep+1))/\w'=w.alloc (.cells ((Lib.splitB sep 0 (Lib.countB s sep) s).map Value.string).toArray 9):=Any.strings_Split Tryz.qDl (by kernel_rfl) s sep m w hs hm h1
end Go.Proofs
end
