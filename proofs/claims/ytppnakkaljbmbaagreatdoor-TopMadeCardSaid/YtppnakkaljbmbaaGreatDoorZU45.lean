/- Steps of a proof; no condition beyond what each states. -/
import Derived.Test.YtppnakkaljbmbaaGreatDoorZU44
set_option linter.unusedVariables false
set_option linter.unusedSimpArgs false
set_option maxRecDepth 100000
set_option maxHeartbeats 8000000
namespace Go.Proofs.YtppnakkaljbmbaaGreatDoor
namespace Al
open Go.RowKit Hf Bt Zr Ix Front Wg Ch Sl Sq Us St Tn Bk Rg Sm Sh
theorem zJk {P:Program} {ρ:Operand->Value} {o:Oper} {x y:Operand} {t:TypeId} {s u:ByteArray} {M:Nat} (ho:o.op= .slice t x none (some y) none) (hx:ρ x= .string s) (hy:ρ y= .int .i64 (M:Int)) (hM:M<=s.size) (hu:s.extract 0 M=u) (ht:P.underlying t=some .string) (w:World):(execOp ρ o).run P w= .ok (.value (.string u)) w:=by
 unfold execOp
 subst hu
 simp[ho,hx,hy,go_sem,ht]
 intro h
 omega
theorem zSn {k:IntKind} {w w':World} {a:Option Addr} {len cap:Nat} {g:Nat->Int×Int} (h:Kit.zEq k w a len cap g) (hb:Below w.heap.size w w'):Kit.zEq k w' a len cap g:=by
 refine⟨h.1,h.2.1,fun i hi=> ?_⟩
 obtain⟨b,off,ha,h0,h1,k0,k1⟩:=h.2.2 i hi
 exact⟨b,off,ha,by rw[hb.cell (p:=⟨b,off+i*2,none⟩) (block_lt_of_cell h0)];exact h0,by rw[hb.cell (p:=⟨b,off+i*2+1,none⟩) (block_lt_of_cell h1)];exact h1,k0,k1⟩
theorem qAg (s:ByteArray) (a:Option Addr) (len cap:Nat) (g:Nat->Int×Int) (w:World) (hs:s.size<=maxLen) (h:Kit.zEq .i64 w a len cap g) (hm:HM w):Calls Tryz.prog 4 #[.string s,.slice a len cap] w fun e w'=>e= .returned (.bool true)/\Below w.heap.size w w':=by
 obtain⟨M1,t,hM1,hM1s,ht,hts,hMe⟩:=Kit.zRp s 60 60 rfl
 have hMm:min (s.size:Int) 60=(M1:Int):=by have:=hMe.out;omega
 obtain⟨B,hB⟩:=zB w.heap.size
 have HAL:=zH (zPf w hm)
 have HPR:=zH h
 have HB:=zH hB
 rw[hB]at HAL⊢
 unfold maxLen at hs
 clear hm hB h
 go_enter Tryz.func4,Tryz.ntmps4
 go_wp2_with fail
 (with_reducible refine HAL.out.mono ?_)
 rintro e w1 ⟨rfl,hb1⟩
 have B1:=zH (show Below B w w1/\B<=w1.heap.size from⟨hb1,by have:=hb1.size;have:=HB.out;omega⟩)
 have R1:=zH (Rle.qBu a len cap g 200 (by omega) 200 rfl w1.drew (zSn HPR.out (by rw[HB.out];exact B1.out.1.drew)))
 clear hb1 HAL
 go_wp2_with fail
 refine zS [] (fun _=>True) [0,0,2,4,9,0,32,80,128,0] 10<|zu 0 39 (.string s)<|zu 1 40 (.string s)<|zu 2 41 (.int .i64 (s.size:Int))<|zv 3 42 (.int .i64 (M1:Int)) (fun w=>by first|(rw[<-hM1];kernel_rfl)|(rw[<-hMm];kernel_rfl))<|zv 4 43 (.string t) (fun w=>zJk (t:=9) (x:= .tmp 39) (y:= .tmp 42) rfl (by kernel_rfl) (by kernel_rfl) hM1s ht Tryz.underlying9 w)<|zu 9 48 (.int .i64 0)<|zp [5]<|zk 44 (.slice a len cap)<|zn<|zx 6 45 16 #[.slice a len cap,.int .i64 200] R1.out<| ?_
 rintro e w2 ⟨u,rfl,hu,hb2⟩
 refine⟨_,rfl,.inr (.inr trivial),?_⟩
 refine Kit.zLe (w':=w2.alloc (.cells #[.string t,.string u] zAk)) 7 (some 46) (.slice (some ⟨w2.heap.size,0,none⟩) 2 2) 767 (by kernel_rfl) (by kernel_rfl) rfl rfl (by kernel_rfl) (by kernel_rfl) (.inr (.inr trivial)) ?_
 refine zp [8]<|zk 47 (.int .i64 2)<|zn<|zE<| ?_
 simp only[zP,zI,Act.put,List.setIfInBounds_toArray,List.set_cons_zero,List.set_cons_succ]
 have B2:=zH (al1 ⟨B1.out.1.drew,B1.out.2⟩ hb2)
 obtain⟨E,hE⟩:=zB w2.heap.size
 obtain⟨w3,hw3⟩:=zB (w2.alloc (.cells #[.string t,.string u] zAk))
 have Z3:=zH (show w3.heap[E]? =some (.cells #[.string t,.string u] zAk (0,0))by rw[<-hw3,<-hE];exact zAh w2 _)
 have B3:=zH (show Below B w w3/\B<=w3.heap.size/\E<w3.heap.size from⟨by rw[<-hw3];exact B2.out.1.alloc B2.out.2 _,by rw[<-hw3,zA];have:=B2.out.2;omega,by rw[<-hw3,zA,hE];omega⟩)
 rw[hE,hw3]
 have HTU:=zH (And.intro hts hu)
 clear hb2 B1 B2 R1 hE hw3 hs hM1 hM1s ht hts hMe hMm hu
 go_wp2
 go_loopw [48] (fun iv wr=>∃k:Nat,k<=2/\iv= .int .i64 k/\RowKit.Hid (Below w3.heap.size w3 wr)) (fun iv _=>2-(intOf iv).toNat)
 case atStart=>exact⟨0,by omega,rfl,zH (Below.refl _ _)⟩
 case round=>
  obtain⟨k,hk,rfl,hbr⟩:=hrel
  by_cases hlt:k<2
  ·obtain⟨x,hxs,hxc⟩:∃x:ByteArray,x.size<=200/\wr.cell? ⟨E,k,none⟩=some (.string x):=by
    have hz:=(hbr.out.block E B3.out.2.2).trans Z3.out
    obtain rfl|rfl:k=0\/k=1:=by omega
    ·exact⟨t,by have:=HTU.out.1;omega,by simp[World.cell?,hz]⟩
    ·exact⟨u,HTU.out.2,by simp[World.cell?,hz]⟩
   by_cases hx0:x.size=0
   ·have hxe:x=⟨#[]⟩:=by
     have:x.data.size=0:=hx0
     have h2:x.data= #[]:=Array.eq_empty_of_size_eq_zero this
     cases x
     simp at h2
     rw[h2]
    subst hxe
    clear hx0 hxs
    go_wp2
    go_roundw
    case rel=>exact⟨k+1,by omega,by go_num,hbr⟩
    case measure=>simp only[intOf];omega
   ·obtain⟨X,p,A,L,n,O,l,m0,m,N,h⟩:=zWf x hxs (by omega)
    have H:=zH h
    have hx1:(x.toList==([]:List UInt8))=false:=by rw[Lib.toList_data,beq_eq_false_iff_ne];intro e;have:x.data.toList.length=0:=(by rw[e];rfl);rw[Array.length_toList]at this;exact hx0 this
    clear hx0 hxs h
    have B3r:=zH (show Below w3.heap.size w3 wr/\w3.heap.size<=wr.heap.size from⟨hbr.out,hbr.out.size⟩)
    clear hbr
    have HEN:=zH (H.out.en wr)
    go_wp2_with fail
    (with_reducible refine HEN.out.mono ?_)
    rintro e w4 ⟨rfl,hb4⟩
    have B4:=zH (al1 B3r.out hb4)
    clear hb4 B3r HEN hxc hx1
    go_wp2_with fail
    (with_reducible refine(H.out.pk _).mono ?_)
    rintro e w5 ⟨rfl,hb5⟩
    have T5:=zH (zAb (zAh w4 (.cells #[.string (Bt.pk (zAn X)),.int .i64 ((zAn X).length:Int)] 51)) hb5)
    have B5:=zH (al2 B4.out hb5)
    clear hb5 B4
    go_wp2_with fail
    (with_reducible refine(H.out.fw _).mono ?_)
    rintro e w6 ⟨rfl,hb6⟩
    have T6:=zH (zAb T5.out hb6)
    have B6:=zH (al1 B5.out hb6)
    clear hb6 B5 T5
    go_wp2_with fail
    (with_reducible refine(H.out.al _).mono ?_)
    rintro e w7 ⟨rfl,hb7⟩
    have T7:=zH (zAb T6.out hb7)
    have B7:=zH (al1 B6.out hb7)
    clear hb7 B6 T6
    go_wp2_with fail
    (with_reducible refine(H.out.fr _).mono ?_)
    rintro e w8 ⟨a8,c8,rfl,hs8,hb8,had8⟩
    have HZE:=zH (H.out.ze a8 c8 w8 hs8 had8)
    have T8:=zH (zAb T7.out hb8)
    have B8:=zH (al1 B7.out hb8)
    clear hb8 B7 T7 hs8 had8
    go_wp2_with fail
    (with_reducible refine HZE.out.mono ?_)
    rintro e w9 ⟨a9,c9,rfl,ho9,hb9⟩
    have T9:=zH (zAb T8.out hb9)
    have B9:=zH (al1 B8.out hb9)
    have hm0:m0.length<=250:=by have h1:=H.out.ml;have h2:=H.out.n1;rw[H.out.em]at h1;simp at h1;omega
    obtain⟨p1,c1,w10,hr10,ho10,hg10⟩:=Kit.Own.app (ty:=23) zFn (Kit.Own.start w9 w9.heap.size 3) a9 m0.length c9 (m0.map ival) ho9.src (by simp) (fun h=>by rcases Ad.zIz ho9 with⟨_,h2,h3⟩|⟨_,_,_,h4⟩<;>simp_all) (zDr m0) (by unfold maxLen;omega) (by omega) (Nat.le_refl _)
    rw[Nat.zero_add]at hr10 ho10
    rw[List.nil_append]at ho10
    obtain⟨p2,c2,w11,hr11,ho11,hb11⟩:=zMb ho10 (A.size+1) (by omega) hg10.size
    rw[show((A.size+1:Nat):Int)=(A.size:Int)+1 from by omega]at hr11
    rw[<-H.out.em]at ho11
    have hb911:Below w9.heap.size w9 w11:=(Kit.zAq hg10 (Nat.le_refl _) (by simp[Value.ownBlock])).trans hb11
    obtain⟨g2,rfl,hj1,hg2l,hnc,hj2⟩:=ho11.at_ (by omega)
    clear hj1 hj2
    have hml:m.length=m0.length+1:=by rw[H.out.em];simp
    have HTB:=zL0 m N (some ⟨g2,0,none⟩) (m0.length+1) c2 w11 hml hnc (by omega) (by omega) (by have:=H.out.N1;omega) (by have:=H.out.N1;omega) ho11.src H.out.lt (fun q hq=>by cases hq;exact hg2l)
    rw[show(N:Int)=(A.size:Int)+2 from by rw[H.out.eN];omega]at HTB
    obtain⟨K,ch,gs,ts,hq⟩:=zWe H.out
    rw[show(grp m).length=K from by rw[<-hq.eg];exact hq.gl,<-hq.et,<-hq.ec]at HTB
    have HQ:=zH hq
    clear hq
    have HT:=zH HTB
    have S11:=zH ho11.src
    have T11:=zH (zAb T9.out hb911)
    have B11:=zH (al1 B9.out hb911)
    have M11:=zH (And.intro hml (And.intro hnc (And.intro hm0 hg2l)))
    clear HZE T8 T9 B8 B9 ho9 hb9 hm0 ho10 hg10 hb11 ho11 hb911 hml HTB hnc hg2l
    have hA1:=H.out.A1
    go_wp2_with (at_builtin;first|refine Kit.zAr rfl (.const (.slice none 0 0)) (.tmp 79) 23 rfl rfl rfl hr10 ?_|refine Kit.zAr rfl (.tmp 80) (.tmp 84) 23 rfl rfl rfl hr11 ?_)
    clear hr10 hr11
    (with_reducible refine HT.out.mono ?_)
    rintro e w12 ⟨tp,tc,cq,cc,G0,G1,rfl,s0,s1,s2,s3,hb12⟩
    have T12:=zH (zAb T11.out hb12)
    have B12:=zH (al1 B11.out hb12)
    have S12:=zH (S11.out.below hb12)
    have M12:=zH (Nat.lt_of_lt_of_le M11.out.2.2.2 hb12.size)
    have Q12:=zH (And.intro s0 (And.intro s1 (And.intro s2 s3)))
    clear HT S11 T11 B11 hb12 s0 s1 s2 s3
    go_wp2_with fail
    obtain⟨m1,m2,m3,hd3⟩:=qDv X O (by have:=H.out.O1;have:=H.out.n1;omega)
    have HD3:=zH hd3
    have HP1:=zH (hd3.p1 w12)
    clear hd3
    (with_reducible refine HP1.out.mono ?_)
    rintro e w13 ⟨rfl,hb13⟩
    obtain⟨b1,hb1⟩:=zB w13.heap.size
    obtain⟨w14,hw14⟩:=zB (w13.alloc (.cells #[.string (Bt.pk m1),.int .i64 48] TBi))
    have hb14:Below w13.heap.size w13 w14:=by rw[<-hw14];exact(Below.refl _ _).alloc (Nat.le_refl _) _
    have V14:=zH (show w14.drew.heap[b1]? =some (.cells #[.string (Bt.pk m1),.int .i64 48] TBi (0,0))by rw[<-hw14,<-hb1];exact zAh w13 _)
    have B14:=zH (show Below w12.heap.size w12 w14.drew/\w12.heap.size<=b1 from⟨(hb13.trans (hb14.mono hb13.size)).drew,by rw[<-hb1];exact hb13.size⟩)
    have HB1:=zH hb1
    have HW14:=zH hw14
    have HSU:=zH (H.out.su w14.drew)
    clear HP1 hb13 hb14 hb1 hw14
    go_wp2_with fail
    rw[HB1.out,show w13.alloc (.cells #[.string (Bt.pk m1),.int .i64 48] TBi)=w14 from HW14.out]
    have HP2:=zH HD3.out.p2
    clear HB1 HW14
    refine zS [4,8] (fun W=>W.heap[b1]? =some (.cells #[.string (Bt.pk m1),.int .i64 48] TBi (0,0))) [0,0,2,4,13,16,32,32,127] 9<|zy 0 120 (.agg #[.string (Bt.pk m1),.int .i64 48]) (fun w hS=>zl 51 21 (zFp hS)) V14.out<|zp [1]<|zk 121 (.string x)<|zn<|zx 2 122 25 #[.string x] HSU.out<| ?_
    rintro e w15 ⟨rfl,hb15⟩
    have V15:=zH (zAb V14.out hb15)
    refine⟨_,rfl,.inr (.inr V15.out),?_⟩
    refine zp [3]<|zt 123 (.int .u64 (zBa X:Int)) (qE9 (x:= .tmp 122) rfl (by kernel_rfl) H.out.s1 _)<|zn<|zx 4 124 24 #[.agg #[.string (Bt.pk m1),.int .i64 48],.int .u64 (zBa X:Int),.int .i64 32] (HP2.out w15)<| ?_
    rintro e w16 ⟨rfl,hb16⟩
    have V16:=zH (zAb V15.out hb16)
    obtain⟨w17,hst17,hz17,hbl17,hsz17⟩:=zJi (u':= .string (Bt.pk m2)) (v':= .int .i64 80) V16.out (by simp[Value.oneCell'])
    refine⟨_,rfl,.inr (.inr V16.out),?_⟩
    refine zp [5]<|zk 119 (.tuple #[.agg #[.string (Bt.pk m2),.int .i64 80],.int .i64 0])<|zn<|zu 7 126 (.int .i64 0)<|zp [6]<|zk 125 (.agg #[.string (Bt.pk m2),.int .i64 80])<|zn<|zw 8 none (zr 51 21 125 (hst17)) (.inr (.inl (by kernel_rfl)))<|zE<| ?_
    simp only[zP,zI,Act.put,List.setIfInBounds_toArray,List.set_cons_zero,List.set_cons_succ]
    have B17:=zH (show Below w12.heap.size w12 w17/\b1<w17.heap.size from⟨(B14.out.1.trans ((hb15.mono (by have:=B14.out.1.size;exact this)).trans (hb16.mono (Nat.le_trans B14.out.1.size hb15.size)))).trans (hbl17 _ B14.out.2),zAd hz17⟩)
    have V17:=zH hz17
    clear hb15 hb16 hst17 hz17 hbl17 hsz17 HSU HP2 V14 V15 V16
    have hO:=H.out.O1
    have hn1:=H.out.n1
    have HP3:=zH HD3.out.p3
    obtain⟨y0,y1,f0,f1⟩:=zC1 V17.out
    clear f0 f1
    go_wp2_with fail
    clear y0 y1
    (with_reducible refine(HP3.out _).mono ?_)
    rintro e w18 ⟨rfl,hb18⟩
    have V18:=zH (zAb V17.out hb18)
    obtain⟨y0,y1,f0,f1⟩:=zC1 V18.out
    clear HP3 V17
    go_wp2_with fail
    obtain⟨q1,q2,hmn⟩:=qFm K (by have:=HQ.out.k1;omega)
    have HMN:=zH hmn
    obtain⟨w19,hw19⟩:=zB ((w18.setCell ⟨b1,0,none⟩ (.string (Bt.pk m3))).setCell ⟨b1,1,none⟩ (.int .i64 96))
    have V19:=zH (show w19.heap[b1]? =some (.cells #[.string (Bt.pk m3),.int .i64 96] TBi (0,0))by rw[<-hw19];exact zA3 1 _ (zA3 0 _ V18.out))
    have B19:=zH (show Below w12.heap.size w12 w19/\w12.heap.size<=w19.heap.size by
     have hx:=B17.out.1.trans (hb18.mono B17.out.1.size)
     have hx2:=(hx.setCell (p:=⟨b1,0,none⟩) B14.out.2 (.string (Bt.pk m3))).setCell (p:=⟨b1,1,none⟩) B14.out.2 (.int .i64 96)
     rw[hw19]at hx2
     exact⟨hx2,hx2.size⟩)
    clear hmn V18 y0 y1 f0 f1 B17 hb18 B14
    rw[hw19]
    clear hw19
    (with_reducible refine(HMN.out.p1 _).mono ?_)
    rintro e w20 ⟨rfl,hb20⟩
    have V20:=zH (zAb V19.out hb20)
    have B20:=zH (al1 B19.out hb20)
    have hk1:=HQ.out.k1
    clear V19 B19 hb20
    go_wp2_with fail
    (with_reducible refine(HMN.out.p2 _).mono ?_)
    rintro e w22 ⟨rfl,hb22⟩
    have V22:=zH (zAb (zAb V20.out ((Below.refl _ _).alloc (Nat.le_refl _) _)) hb22)
    have B22:=zH (And.intro (al2 B20.out hb22) B20.out.2)
    have U22:=zH (zAb (zAh w20 (.cells #[.string (Bt.pk q1),.int .i64 3] TBi)) hb22)
    have L20:=zH (zAd V20.out)
    obtain⟨y0,y1,f0,f1⟩:=zC1 U22.out
    clear V20 B20 hb22
    go_wp2_with fail
    clear y0 y1 f0 f1
    obtain⟨b2,hb2⟩:=zB w20.heap.size
    rw[hb2]at U22 L20 B22⊢
    clear hb2
    obtain⟨w23,hw23⟩:=zB ((w22.setCell ⟨b2,0,none⟩ (.string (Bt.pk q2))).setCell ⟨b2,1,none⟩ (.int .i64 18))
    have U23:=zH (show w23.heap[b2]? =some (.cells #[.string (Bt.pk q2),.int .i64 18] TBi (0,0))by rw[<-hw23];exact zA3 1 _ (zA3 0 _ U22.out))
    have V23:=zH (show w23.heap[b1]? =some (.cells #[.string (Bt.pk m3),.int .i64 96] TBi (0,0))by rw[<-hw23,zAa (Nat.ne_of_lt L20.out),zAa (Nat.ne_of_lt L20.out)];exact V22.out)
    have B23:=zH (show Below w12.heap.size w12 w23/\w12.heap.size<=w23.heap.size by
     have hx2:=(B22.out.1.1.setCell (p:=⟨b2,0,none⟩) B22.out.2 (.string (Bt.pk q2))).setCell (p:=⟨b2,1,none⟩) B22.out.2 (.int .i64 18)
     rw[hw23]at hx2
     exact⟨hx2,hx2.size⟩)
    rw[hw23]
    clear hw23 U22 V22 B22 L20
    obtain⟨tb,tz,rfl,x0,x1⟩:=qG4 Q12.out.1
    have X12:=zH (And.intro x0 x1)
    clear x0 x1
    (with_reducible refine(HQ.out.sp cq cc w23 (Q12.out.2.2.2.below B23.out.1)).mono ?_)
    rintro e w24 ⟨rfl,hb24⟩
    have V24:=zH (zAb V23.out hb24)
    have U24:=zH (zAb U23.out hb24)
    have B24:=zH (al1 B23.out hb24)
    have y0:=zCq X12.out.1 B24.out.1
    clear V23 U23 B23 hb24
    go_wp2_with fail
    clear y0
    obtain⟨w25,b3,e25,e3,p3,hb25⟩:=zLf w24 (zAz false ch)
    rw[e25,e3]
    have V25:=zH (zAb V24.out hb25)
    have U25:=zH (zAb U24.out hb25)
    have P25:=zH p3
    have B25:=zH (al1 B24.out hb25)
    clear e25 e3 p3 hb25 V24 U24 B24
    (with_reducible refine(HQ.out.dp 0 _ w25 (Q12.out.2.1.below B25.out.1)).mono ?_)
    rintro e w26 ⟨rfl,hb26⟩
    have V26:=zH (zAb V25.out hb26)
    have U26:=zH (zAb U25.out hb26)
    have P26:=zH (zAb P25.out hb26)
    have B26:=zH (al1 B25.out hb26)
    have y1:=zCq X12.out.2 B26.out.1
    clear V25 U25 P25 B25 hb26
    go_wp2_with fail
    clear y1
    obtain⟨w27,b4,e27,e4,p4,hb27⟩:=zLf w26 (delta (ts 0))
    rw[e27,e4]
    have V27:=zH (zAb V26.out hb27)
    have U27:=zH (zAb U26.out hb27)
    have P27:=zH (zAb P26.out hb27)
    have O27:=zH p4
    have B27:=zH (al1 B26.out hb27)
    clear e27 e4 p4 hb27 V26 U26 P26 B26
    (with_reducible refine(HQ.out.dp 1 _ w27 (Q12.out.2.2.1.below B27.out.1)).mono ?_)
    rintro e w28 ⟨rfl,hb28⟩
    have V28:=zH (zAb V27.out hb28)
    have U28:=zH (zAb U27.out hb28)
    have P28:=zH (zAb P27.out hb28)
    have O28:=zH (zAb O27.out hb28)
    have B28:=zH (al1 B27.out hb28)
    clear V27 U27 P27 O27 B27 hb28
    go_wp2_with fail
    obtain⟨w29,b5,e29,e5,p5,hb29⟩:=zLf w28 (delta (ts 1))
    rw[e29,e5]
    have B29:=zH (al1 B28.out hb29)
    have hm3:(m3.length:Int)=96:=by have:=qDu HD3.out;omega
    have hq2:(q2.length:Int)=18:=by have:=qFl HMN.out;omega
    have F29:=zH (show Five w29.drew b1 b2 b3 b4 b5 m3 q2 (zAz false ch) (delta (ts 0)) (delta (ts 1))from⟨by rw[hm3];exact zAb V28.out hb29.drew,by rw[hq2];exact zAb U28.out hb29.drew,zAb P28.out hb29.drew,zAb O28.out hb29.drew,p5⟩)
    clear e29 e5 p5 hb29 V28 U28 P28 O28 B28 hm3 hq2
    refine zS [7] (fun W=>Five W b1 b2 b3 b4 b5 m3 q2 (zAz false ch) (delta (ts 0)) (delta (ts 1))) [0,0,2,0,0,0,0,125,255] 9<|zy 0 166 (.agg #[.string (Bt.pk m3),.int .i64 (m3.length:Int)]) (fun w hS=>zl 51 21 (zFp hS.h1)) F29.out<|zy 3 169 (.agg #[.string (Bt.pk q2),.int .i64 (q2.length:Int)]) (fun w hS=>zl 51 23 (zFp hS.h2)) F29.out<|zy 4 170 (.agg #[.string (Bt.pk (zAz false ch)),.int .i64 ((zAz false ch).length:Int)]) (fun w hS=>zl 51 25 (zFp hS.h3)) F29.out<|zy 5 171 (.agg #[.string (Bt.pk (delta (ts 0))),.int .i64 ((delta (ts 0)).length:Int)]) (fun w hS=>zl 51 27 (zFp hS.h4)) F29.out<|zy 6 172 (.agg #[.string (Bt.pk (delta (ts 1))),.int .i64 ((delta (ts 1)).length:Int)]) (fun w hS=>zl 51 29 (zFp hS.h5)) F29.out<|zp [1]<|zk 167 (.string A)<|zn<|zx 2 168 28 #[.string A] (H.out.mp w29.drew)<| ?_
    rintro e w30 ⟨rfl,hb30⟩
    have F30:=zH (F29.out.below hb30)
    refine⟨_,rfl,.inr (.inr F30.out),?_⟩
    refine Kit.zLe (w':=w30.alloc (.cells (Kit.flat LB (zD3 A m3 q2 ch (ts 0) (ts 1))).toArray TBi)) 7 (some 173) (.slice (some ⟨w30.heap.size,0,none⟩) 6 6) 255 (by kernel_rfl) (by kernel_rfl) rfl rfl (by kernel_rfl) (by kernel_rfl) (.inr (.inl (by kernel_rfl))) ?_
    refine zp [8]<|zk 31 (.slice (some ⟨w30.heap.size,0,none⟩) 6 6)<|zn<|zE<| ?_
    simp only[zP,zI,Act.put,List.setIfInBounds_toArray,List.set_cons_zero,List.set_cons_succ]
    have B30:=zH (al1 (show Below w12.heap.size w12 w29.drew/\w12.heap.size<=w29.drew.heap.size from⟨B29.out.1.drew,B29.out.2⟩) hb30)
    have HO31:=zW9 w30 A m3 q2 ch (ts 0) (ts 1)
    obtain⟨E1,hE1⟩:=zB w30.heap.size
    obtain⟨w31,hw31⟩:=zB (w30.alloc (.cells (Kit.flat LB (zD3 A m3 q2 ch (ts 0) (ts 1))).toArray TBi))
    have B31:=zH (show Below w12.heap.size w12 w31/\w12.heap.size<=E1/\w31.heap.size=E1+1 from⟨by rw[<-hw31];exact B30.out.1.alloc B30.out.2 _,by rw[<-hE1];exact B30.out.2,by rw[<-hw31,zA,hE1]⟩)
    rw[hE1,hw31]at HO31
    have OW31:=zH HO31
    have HGR:=zH8 m (some ⟨g2,0,none⟩) (m0.length+1) c2 w31 M11.out.1 (by have:=M11.out.2.2.1;omega) M11.out.2.1 (S12.out.below B31.out.1) (fun q hq=>by cases hq;show g2<_;have h1:=M12.out;have h2:=B31.out.1.size;omega)
    rw[<-HQ.out.eg,HQ.out.gl]at HGR
    have HG:=zH HGR
    rw[hE1,hw31]
    clear HO31 hE1 hw31 B29 F29 F30 hb30 B30 HGR
    go_wp2_with fail
    (with_reducible refine HG.out.mono ?_)
    rintro e w32 ⟨gp,gc,vs,rfl,hgr,hb32⟩
    obtain⟨g0,rfl,_,_,_,_,_⟩:=hgr.own.at_ HQ.out.k0
    have B32:=zH (show Below w12.heap.size w12 w32/\w12.heap.size<=E1/\E1<w32.heap.size from⟨B31.out.1.trans (hb32.mono B31.out.1.size),B31.out.2.1,by have h1:=hb32.size;have h2:=B31.out.2.2;omega⟩)
    have OW32:=zH (OW31.out.below hb32 (Nat.le_refl _))
    have hD:E1<w31.heap.size:=by have:=B31.out.2.2;omega
    obtain⟨D,hDe⟩:=zB w31.heap.size
    rw[hDe]at hgr hD
    have GR32:=zH hgr
    have HED:=zH hD
    obtain⟨cb,co,rfl,_⟩:=Q12.out.2.2.2 0 (ival (ch[0]'(by rw[HQ.out.cl];exact HQ.out.k0))) (by rw[List.getElem?_map,List.getElem?_eq_getElem (by rw[HQ.out.cl];exact HQ.out.k0)];rfl)
    clear HG hgr hb32 OW31 hD hDe B31
    have hkk:((K:Int)!=(K:Int))=false:=by simp
    go_wp2
    clear hkk
    obtain⟨wm,rfl⟩:∃wm,wm=wr:=⟨_,rfl⟩
    go_loopw [31,33] (fun pv iv wr=>∃(i pc:Nat) (pa:Option Addr),i<=K/\iv= .int .i64 i/\pv= .slice pa (6+i) pc/\RowKit.Hid (Kit.Own' LB wr E1 TBi pa (6+i) pc (zD3 A m3 q2 ch (ts 0) (ts 1)++(List.range i).map (zBe p)))/\RowKit.Hid (StB w32 wr E1)/\RowKit.Hid (Gr wr D (some ⟨g0,0,none⟩) K gc vs gs)) (fun _ iv _=>K-(intOf iv).toNat)
    case atStart=>exact⟨0,6,_,Nat.zero_le _,rfl,rfl,zH (by rw[List.range_zero,List.map_nil,List.append_nil];exact OW32.out),zH (StB.refl _ _),GR32⟩
    case round=>
     clear OW32 GR32
     obtain⟨i,pc,pa,hi,rfl,rfl,how,hst,hgr⟩:=hrel
     have hbw:=B32.out.1.trans (hst.out.below.mono B32.out.2.1)
     by_cases hlt:i<K
     ·obtain⟨gg,kk,hg,hkk1,hk2,hgl,hgN⟩:=qAw HQ.out i hlt
      obtain⟨G,c',hv,hgc,howng⟩:=hgr.out.each i gg hg
      obtain⟨g0',hg0,_,_,_,hcell,_⟩:=hgr.out.own.at_ HQ.out.k0
      obtain rfl:g0=g0':=by injection hg0 with hg0;injection hg0
      obtain⟨Lg,hLg⟩:=zB gg.length
      rw[hLg]at hv hgc howng hgl
      have xg:=hcell i hlt
      rw[hv]at xg
      obtain⟨_,_,hbo,xc⟩:=(Q12.out.2.2.2.below hbw) i (ival kk) (by rw[List.getElem?_map,hkk1];rfl)
      injection hbo with hbo
      injection hbo with e1 e2 _
      subst e1 e2
      obtain⟨Gk,hGk,hsk⟩:∃Gk,([Value.slice (some ⟨G0,0,none⟩) N N,Value.slice (some ⟨G1,0,none⟩) N N]:List Value)[kk]? =some (.slice (some ⟨Gk,0,none⟩) N N)/\Kit.Src wr (some ⟨Gk,0,none⟩) ((ts kk).map ival):=by
       obtain rfl|rfl:kk=0\/kk=1:=by omega
       ·exact⟨G0,rfl,Q12.out.2.1.below hbw⟩
       ·exact⟨G1,rfl,Q12.out.2.2.1.below hbw⟩
      obtain⟨_,_,hbo,xt⟩:=(Q12.out.1.below hbw) kk _ hGk
      injection hbo with hbo
      injection hbo with e1 e2 _
      subst e1 e2
      obtain⟨xb,hxb⟩:=zB (zBe p i)
      have HPU:=zH (show ∀W',Below wr.heap.size wr W'->Calls Tryz.prog 30 #[.slice (some ⟨Gk,0,none⟩) N N,.slice (some ⟨G,0,none⟩) Lg c'] W' fun e w'=>e= .returned (.tuple #[.agg #[.string (Bt.pk xb),.int .i64 (xb.length:Int)],.int .i64 0])/\Below W'.heap.size W' w' from fun W' hb=>by
       have h1:=zRq (ts kk) (some ⟨Gk,0,none⟩) N N gg (some ⟨G,0,none⟩) Lg c' W' (HQ.out.tl kk) (hsk.below hb) (fun q hq=>by
        cases hq
        obtain⟨_,_,hbo,hc⟩:=hsk 0 (ival ((ts kk)[0]'(by rw[HQ.out.tl];have:=H.out.N1;omega))) (by rw[List.getElem?_map,List.getElem?_eq_getElem (by rw[HQ.out.tl];have:=H.out.N1;omega)];rfl)
        injection hbo with hbo
        injection hbo with e1 e2 _
        subst e1 e2
        exact Nat.lt_of_lt_of_le (block_lt_of_cell hc) hb.size) (HQ.out.tr kk) hLg (by omega) (howng.src.below hb) hgN
       rw[qAx H.out HQ.out i gg hg kk hkk1,hxb]at h1
       exact h1)
      have LC:=zH (fun(W':World) (hb:Below wr.heap.size wr W')=>Kit.zAg (P:=Tryz.prog) (t:=3) (zGs xc hb) (by kernel_rfl) (by kernel_rfl))
      have LT:=zH (fun(W':World) (hb:Below wr.heap.size wr W')=>Kit.zAg (P:=Tryz.prog) (t:=23) (zGs xt hb) (by kernel_rfl) (by kernel_rfl))
      have LG:=zH (fun(W':World) (hb:Below wr.heap.size wr W')=>Kit.zAg (P:=Tryz.prog) (t:=23) (zGs xg hb) (by kernel_rfl) (by kernel_rfl))
      have HXB:=zH hxb
      have HPK:=zH (fun(W':World)=>qHb kk hk2 W')
      clear hg hkk1 hgl hgN hv hgc howng hcell xg xc xt hGk hsk hxb hLg hbw
      go_upto_region 31 with fail
      go_cut [34,35] (fun s34 s35 wx=>∃b,s34= .pointer (some ⟨b,0,none⟩)/\s35= .int .i64 0/\RowKit.Hid (Below wr.heap.size wr wx/\wx.heap[b]? =some (.cells #[.string (Bt.pk xb),.int .i64 (xb.length:Int)] TBi (0,0))))
      case first=>
       have hS0:=(Below.refl wr.heap.size wr).drew
       have hA0:=hS0.alloc (Nat.le_refl _) (.cells #[.string ⟨#[]⟩,.int .i64 0] TBi)
       refine zS [] (fun W'=>Below wr.heap.size wr W') [0,0,0,6,8,16,33,64,0,0,768,1024,2208,4096,8192,8192,0,98303,262143] 19<|zu 0 188 (.slice (some ⟨tb,tz,none⟩) 2 tc)<|zu 1 189 (.slice (some ⟨cb,co,none⟩) K cc)<|zu 2 190 (zI i)<|zv 3 191 (.pointer (some ⟨cb,co+i,none⟩)) (fun w=>Kit.zK5 (t:=23) (x:=(.tmp 189)) (y:=(.tmp 190)) (g:=cb) (off:=co) (n:=K) (c:=cc) (k:=i) rfl (by kernel_rfl) (by kernel_rfl) (by omega) Tryz.underlying23 (fun _=>Tryz.sizeOf3 _) _)<|zy 4 192 (zI kk) (fun w hS=>zl 3 191 (LC.out _ hS)) hS0<|zu 8 196 (.slice (some ⟨g0,0,none⟩) K gc)<|zu 9 197 (zI i)<|zv 10 198 (zP g0 i) (fun w=>Kit.zBo (t:=60) (x:=(.tmp 196)) (y:=(.tmp 197)) (g:=g0) (n:=K) (c:=gc) (k:=i) rfl (by kernel_rfl) (by kernel_rfl) (by omega) Tryz.underlying60 (fun _=>Tryz.sizeOf23 _) _)<|zy 11 199 (.slice (some ⟨G,0,none⟩) Lg c') (fun w hS=>zl 23 198 (LG.out _ hS)) hS0<| ?_
       refine y2 5 16 ?_ ?_
       ·
        refine yc 193 10 #[.int .i64 (kk:Int),.int .i64 2] (HPK.out _) ?_
        rintro e w40 ⟨rfl,rfl⟩
        refine⟨_,rfl,.inr (.inr (hS0)),?_⟩
        refine zv 6 194 (.pointer (some ⟨tb,tz+kk,none⟩)) (fun w=>Kit.zK5 (t:=60) (x:=(.tmp 188)) (y:=(.tmp 193)) (g:=tb) (off:=tz) (n:=2) (c:=tc) (k:=kk) rfl (by kernel_rfl) (by kernel_rfl) (by omega) Tryz.underlying60 (fun _=>Tryz.sizeOf23 _) _)<|zy 7 195 (.slice (some ⟨Gk,0,none⟩) N N) (fun w hS=>zl 23 194 (LT.out _ hS)) hS0<| ?_
        refine y2 12 16 ?_ ?_
        ·
         refine yc 200 30 #[.slice (some ⟨Gk,0,none⟩) N N,.slice (some ⟨G,0,none⟩) Lg c'] (HPU.out _ (hS0)) ?_
         rintro e w41 ⟨rfl,hb41⟩
         have hb42:=(hS0).trans (hb41.mono (hS0).size)
         refine⟨_,rfl,.inr (.inr (hb42)),?_⟩
         refine zu 13 187 (.tuple #[.agg #[.string (Bt.pk xb),.int .i64 (xb.length:Int)],.int .i64 0])<|zu 14 201 (.agg #[.string (Bt.pk xb),.int .i64 (xb.length:Int)])<|zu 15 202 (.int .i64 0)<| ?_
         refine zo 16 34 (.pointer (some ⟨w41.heap.size,0,none⟩)) (Kit.zDa (w2:=w41.alloc (.cells #[.string ⟨#[]⟩,.int .i64 0] TBi)) (by kernel_rfl) rfl rfl) (.inr (.inr (hb42.alloc hb42.size _))) ?_
         obtain⟨w42,hst42,hz42,hbl42,_⟩:=zJi (u':= .string (Bt.pk xb)) (v':= .int .i64 (xb.length:Int)) (zAh w41 (.cells #[.string ⟨#[]⟩,.int .i64 0] TBi)) (by simp[Value.oneCell'])
         have hb43:=(hb42.alloc hb42.size (.cells #[.string ⟨#[]⟩,.int .i64 0] TBi)).trans (hbl42 _ (hb42.size))
         refine zw 17 none (Kit.zHa (t:=51) (x:=(.tmp 34)) (y:=(.tmp 201)) rfl (by kernel_rfl) (by kernel_rfl) (hst42)) (.inr (.inr (hb43))) ?_
         refine zu 18 35 (.int .i64 0)<|zE<| ?_
         simp only[zP,zI,Act.put,List.setIfInBounds_toArray,List.set_cons_zero,List.set_cons_succ]
         go_wp2
         go_meet
         exact⟨_,rfl,rfl,zH ⟨hb43,hz42⟩⟩
        ·
         refine yv 34 (.pointer (some ⟨wr.drew.heap.size,0,none⟩)) (Kit.zDa (w2:=wr.drew.alloc (.cells #[.string ⟨#[]⟩,.int .i64 0] TBi)) (by kernel_rfl) rfl rfl) (.inr (.inr (hA0))) ?_
         refine zx 12 200 30 #[.slice (some ⟨Gk,0,none⟩) N N,.slice (some ⟨G,0,none⟩) Lg c'] (HPU.out _ (hA0)) ?_
         rintro e w41 ⟨rfl,hb41⟩
         have hb42:=(hA0).trans (hb41.mono (hA0).size)
         refine⟨_,rfl,.inr (.inr (hb42)),?_⟩
         refine zu 13 187 (.tuple #[.agg #[.string (Bt.pk xb),.int .i64 (xb.length:Int)],.int .i64 0])<|zu 14 201 (.agg #[.string (Bt.pk xb),.int .i64 (xb.length:Int)])<|zu 15 202 (.int .i64 0)<| ?_
         obtain⟨w42,hst42,hz42,hbl42,_⟩:=zJi (u':= .string (Bt.pk xb)) (v':= .int .i64 (xb.length:Int)) (zAb (zAh wr.drew (.cells #[.string ⟨#[]⟩,.int .i64 0] TBi)) hb41) (by simp[Value.oneCell'])
         have hb43:=hb42.trans (hbl42 _ (Nat.le_refl _))
         refine zw 17 none (Kit.zHa (t:=51) (x:=(.tmp 34)) (y:=(.tmp 201)) rfl (by kernel_rfl) (by kernel_rfl) (hst42)) (.inr (.inr (hb43))) ?_
         refine zu 18 35 (.int .i64 0)<|zE<| ?_
         simp only[zP,zI,Act.put,List.setIfInBounds_toArray,List.set_cons_zero,List.set_cons_succ]
         go_wp2
         go_meet
         exact⟨_,rfl,rfl,zH ⟨hb43,hz42⟩⟩
       ·
        refine yv 34 (.pointer (some ⟨wr.drew.heap.size,0,none⟩)) (Kit.zDa (w2:=wr.drew.alloc (.cells #[.string ⟨#[]⟩,.int .i64 0] TBi)) (by kernel_rfl) rfl rfl) (.inr (.inr (hA0))) ?_
        refine zx 5 193 10 #[.int .i64 (kk:Int),.int .i64 2] (HPK.out _) ?_
        rintro e w40 ⟨rfl,rfl⟩
        refine⟨_,rfl,.inr (.inr (hA0)),?_⟩
        refine zv 6 194 (.pointer (some ⟨tb,tz+kk,none⟩)) (fun w=>Kit.zK5 (t:=60) (x:=(.tmp 188)) (y:=(.tmp 193)) (g:=tb) (off:=tz) (n:=2) (c:=tc) (k:=kk) rfl (by kernel_rfl) (by kernel_rfl) (by omega) Tryz.underlying60 (fun _=>Tryz.sizeOf23 _) _)<|zy 7 195 (.slice (some ⟨Gk,0,none⟩) N N) (fun w hS=>zl 23 194 (LT.out _ hS)) hA0<| ?_
        refine zx 12 200 30 #[.slice (some ⟨Gk,0,none⟩) N N,.slice (some ⟨G,0,none⟩) Lg c'] (HPU.out _ (hA0)) ?_
        rintro e w41 ⟨rfl,hb41⟩
        have hb42:=(hA0).trans (hb41.mono (hA0).size)
        refine⟨_,rfl,.inr (.inr (hb42)),?_⟩
        refine zu 13 187 (.tuple #[.agg #[.string (Bt.pk xb),.int .i64 (xb.length:Int)],.int .i64 0])<|zu 14 201 (.agg #[.string (Bt.pk xb),.int .i64 (xb.length:Int)])<|zu 15 202 (.int .i64 0)<| ?_
        obtain⟨w42,hst42,hz42,hbl42,_⟩:=zJi (u':= .string (Bt.pk xb)) (v':= .int .i64 (xb.length:Int)) (zAb (zAh wr.drew (.cells #[.string ⟨#[]⟩,.int .i64 0] TBi)) hb41) (by simp[Value.oneCell'])
        have hb43:=hb42.trans (hbl42 _ (Nat.le_refl _))
        refine zw 17 none (Kit.zHa (t:=51) (x:=(.tmp 34)) (y:=(.tmp 201)) rfl (by kernel_rfl) (by kernel_rfl) (hst42)) (.inr (.inr (hb43))) ?_
        refine zu 18 35 (.int .i64 0)<|zE<| ?_
        simp only[zP,zI,Act.put,List.setIfInBounds_toArray,List.set_cons_zero,List.set_cons_succ]
        go_wp2
        go_meet
        exact⟨_,rfl,rfl,zH ⟨hb43,hz42⟩⟩
      case rest=>
       obtain⟨b6,rfl,rfl,hw6⟩:=hcut
       have hE1:E1<=wr.heap.size:=Nat.le_trans (Nat.le_of_lt B32.out.2.2) hst.out.size
       have hE2:E1<=wc.heap.size:=Nat.le_trans hE1 hw6.out.1.size
       obtain⟨pa2,pc2,w43,hr43,ho43,hs43⟩:=zUv (how.out.below hw6.out.1 (Nat.le_refl _)) xb hE2 (by omega)
       have OW43:=zH (show Kit.Own' LB w43 E1 TBi pa2 (6+(i+1)) pc2 (zD3 A m3 q2 ch (ts 0) (ts 1)++(List.range (i+1)).map (zBe p))by
        rw[List.range_succ,List.map_append,<-List.append_assoc]
        simp only[List.map_cons,List.map_nil]
        rw[HXB.out]
        exact ho43)
       have ST43:=zH ((hst.out.trans (StB.of_below hw6.out.1 hE1)).trans hs43)
       have GR43:=zH (qB8 (hgr.out.below hw6.out.1 (Nat.le_refl _)) hs43 HED.out)
       obtain⟨y0,y1,f0,f1⟩:=zC1 hw6.out.2
       clear ho43 hs43 how hst hgr hE1 hE2 HPU LC LT LG HXB HPK hw6 f0 f1
       go_wp2_with (at_builtin;refine Kit.zAr rfl (.tmp 205) (.tmp 207) TLi rfl rfl rfl hr43 ?_)
       clear hr43 y0 y1
       go_roundw
       case rel=>exact⟨i+1,pc2,pa2,by omega,by go_num,rfl,OW43,ST43,GR43⟩
       case measure=>simp only[intOf];omega
     ·obtain rfl:K=i:=by omega
      have hls:=zX H.out HQ.out HD3.out HMN.out
      have hbl:=zPb H.out
      have hct:=zFs pa (6+K) pc _ wr how.out.len (zTp how.out).1 (by omega) (zFd how.out) (by rw[hls];omega)
      rw[hls]at hct
      have HCT:=zH hct
      obtain⟨t0,t1,_,_⟩:=zC1 T12.out
      have BW:=zH (show Below w12.heap.size w12 wr/\w12.heap.size<=wr.heap.size from⟨hbw,hbw.size⟩)
      clear hls hbl hct how hst hgr hbw
      go_wp2_with fail
      (with_reducible refine HCT.out.mono ?_)
      rintro e w50 ⟨rfl,hb50⟩
      have B50:=zH (al1 BW.out hb50)
      have y0:=zCq t0 B50.out.1
      have y1:=zCq t1 B50.out.1
      have BE:=zH (show ∀o,Below w3.heap.size w3 (w50.alloc o)from fun o=>B12.out.1.trans ((B50.out.1.alloc B50.out.2 o).mono B12.out.2))
      clear HCT t0 t1 BW hb50 B50
      go_wp2
      go_roundw
      case rel=>exact⟨k+1,by omega,by go_num,zH (BE.out _)⟩
      case measure=>simp only[intOf];omega
  ·obtain rfl:k=2:=by omega
   have BB:=zH (show Below B w wr from B3.out.1.trans (hbr.out.mono B3.out.2.1))
   clear hbr
   go_wp2
   go_ret
   exact⟨rfl,BB.out⟩
end Al
end Go.Proofs.YtppnakkaljbmbaaGreatDoor
