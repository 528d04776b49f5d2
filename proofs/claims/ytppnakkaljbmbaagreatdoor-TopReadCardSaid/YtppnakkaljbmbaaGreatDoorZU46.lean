/- Steps of a proof; no condition beyond what each states. -/
import Derived.Test.YtppnakkaljbmbaaGreatDoorZU44
set_option linter.unusedVariables false
set_option linter.unusedSimpArgs false
set_option maxRecDepth 100000
set_option maxHeartbeats 8000000
namespace Go.Proofs.YtppnakkaljbmbaaGreatDoor
namespace Al
open Go.RowKit Hf Bt Zr Ix Front Wg Ch Sl Sq Us St Tn Bk Rg Sm Sh
theorem zHu (c:Int) (n:Nat) (h1: -9223372036854775808<=c) (h2:c<=9223372036854775807) (h0:0<n) (hn:n<=100000) {V:Int} (hV:(n:Int)=V):
  ∃k:Nat,k<n/\∀w,Calls Tryz.prog 10 #[.int .i64 c,.int .i64 V] w fun e w'=>e= .returned (.int .i64 (k:Int))/\w'=w:=by
 obtain⟨d,hd⟩:∃d:Nat,(if c<0 then-(c+1)else c)=(d:Int):=⟨(if c<0 then-(c+1)else c).toNat,by split<;>omega⟩
 have hk:(d:Int).tmod (n:Int)=((d%n:Nat):Int):=by rw[Int.tmod_eq_emod_of_nonneg (by omega)];rfl
 obtain⟨k,hkk⟩:=zB (d%n)
 have hkn:k<n:=by rw[<-hkk];exact Nat.mod_lt _ h0
 rw[hkk]at hk
 rw[hV]at hk
 refine⟨k,hkn,fun w=> ?_⟩
 by_cases hc:c<0
 ·rw[if_pos hc]at hd
  have hw1:IntKind.i64.wrap (c+1)=c+1:=IntWalk.i64_in _ ⟨by omega,by omega⟩
  have hw2:IntKind.i64.wrap (-(c+1))= -(c+1):=IntWalk.i64_in _ ⟨by omega,by omega⟩
  go_enter Tryz.func10,Tryz.ntmps10
  go_wp2
  go_ret
  exact⟨rfl,rfl⟩
 ·rw[if_neg hc]at hd
  subst hd
  go_enter Tryz.func10,Tryz.ntmps10
  go_wp2
  go_ret
  exact⟨rfl,rfl⟩
theorem qHy (W:World) (x y:List Bool) {u v:Int} (hu:(x.length:Int)=u) (hv:(y.length:Int)=v) {X Y:ByteArray} (hx:Bt.pk x=X) (hy:Bt.pk y=Y) {z:Nat} (hz:W.heap.size=z):
  RdB (W.alloc (.cells #[.string X,.int .i64 u,.string Y,.int .i64 v] TBi)) (some ⟨z,0,none⟩) [x,y]:=by
 subst hu hv hx hy hz
 exact zFd (Kit.zNf W [x,y] TBi W.heap.size (Nat.le_refl _) (by unfold maxLen;show 2<=_;omega))
theorem zNe {w:World} {B:Nat} {e:TypeId} {a:Option Addr} {n c:Nat} {xs:List Value} (h:Kit.Own w B e a n c xs):∀p,a=some p->p.block<w.heap.size:=fun p hp=>by
 obtain⟨_,h2⟩:=h
 rcases h2 with⟨h2,_⟩|⟨g,cap,cur,hv,_,hg,_⟩
 ·injection h2 with h2 _ _
  rw[hp]at h2;cases h2
 ·injection hv with ha _ _
  rw[hp]at ha;injection ha with ha;subst ha
  exact zAd hg
theorem qFa (s:ByteArray) (c:Int) (w:World) (hs:s.size<=maxLen) (hc1: -9223372036854775808<=c) (hc2:c<=9223372036854775807) (hm:HM w):
  Calls Tryz.prog 5 #[.string s,.int .i64 c] w fun e w'=>e= .returned (.bool true)/\Below w.heap.size w w':=by
 obtain⟨M1,t,hM1,hM1s,ht,hts,hMe⟩:=Kit.zRp s 60 60 rfl
 have hMm:min (s.size:Int) 60=(M1:Int):=by have:=hMe.out;omega
 obtain⟨v,hv,hpv⟩:=zHu c 1000 hc1 hc2 (by omega) (by omega) (V:=1000) rfl
 obtain⟨u,hu,hpu⟩:=zHu c 30 hc1 hc2 (by omega) (by omega) (V:=30) rfl
 have HPV:=zH hpv
 have HPU:=zH hpu
 obtain⟨B,hB⟩:=zB w.heap.size
 have HAL:=zH (zPf w hm)
 have HB:=zH hB
 rw[hB]at HAL⊢
 unfold maxLen at hs
 clear hm hB hpv hpu hMe
 by_cases ht0:t.size=0
 ·have hte:t=⟨#[]⟩:=by
   have:t.data.size=0:=ht0
   have h2:t.data= #[]:=Array.eq_empty_of_size_eq_zero this
   cases t
   simp at h2
   rw[h2]
  subst hte
  clear ht0 hts
  go_enter Tryz.func5,Tryz.ntmps5
  go_wp2_with fail
  (with_reducible refine HAL.out.mono ?_)
  rintro e w1 ⟨rfl,hb1⟩
  have BB:=zH hb1
  clear hb1 HAL
  go_wp2
  go_ret
  exact⟨rfl,BB.out⟩
 ·obtain⟨X,p,A,L,n,O,l,m0,m,N,h⟩:=zWf t (by omega) (by omega)
  obtain⟨K,ch,gs,ts,hq⟩:=zWe h
  obtain⟨d,E,i1,i2,i3,i4,M,htr⟩:=qEp h hq hts (num v u) u (zAc _ _) (by omega)
  have H:=zH h
  have T:=zH htr
  have HPT:=zH (show ∀W,Calls Tryz.prog 24 #[.agg #[.string ⟨#[]⟩,.int .i64 0],.int .u64 (v:Int),.int .i64 (u:Int)] W fun e w'=>e= .returned (.tuple #[.agg #[.string (Bt.pk (num v u)),.int .i64 (u:Int)],.int .i64 0])/\Below W.heap.size W w' from fun W=>(zFm [] v u (m':=num v u) rfl (d:=⟨#[]⟩) (by kernel_rfl) 0 u rfl (by omega) (V:=(v:Int)) rfl (by omega) (by omega) (by omega) W).2)
  have hx1:(t.toList==([]:List UInt8))=false:=by rw[Lib.toList_data,beq_eq_false_iff_ne];intro e;have:t.data.toList.length=0:=(by rw[e];rfl);rw[Array.length_toList]at this;exact ht0 this
  have gO:∀w,Calls Tryz.prog 32 #[.string d,.int .i64 ((u:Int)+80),.int .i64 16] w fun e w'=>e= .returned (.tuple #[.int .u64 (O:Int),.int .i64 0])/\w=w':=htr.gO
  have um:∀w,Calls Tryz.prog 33 #[.string d,.int .i64 ((u:Int)+80+16)] w fun e w'=>e= .returned (.tuple #[.string A,.int .i64 (i1:Int),.int .i64 0])/\Below w.heap.size w w':=by
   have h:=htr.um
   rw[show((u+96:Nat):Int)=(u:Int)+80+16 from by omega]at h
   exact h
  have gK:∀w,Calls Tryz.prog 32 #[.string d,.int .i64 ((i1:Int)+3),.int .i64 15] w fun e w'=>e= .returned (.tuple #[.int .u64 (K:Int),.int .i64 0])/\w=w':=htr.gK
  have st:∀w,Calls Tryz.prog 34 #[.string d,.int .i64 ((i1:Int)+18),.int .i64 (K:Int),.int .i64 2] w fun e w'=>∃a' c',e= .returned (.tuple #[.slice a' K c',.int .i64 (i2:Int),.int .i64 0])/\Kit.Own w' w.heap.size 3 a' K c' (ch.map ival)/\Below w.heap.size w w':=htr.st
  have eN:(N:Int)=(A.size:Int)+2:=by have:=htr.eN;omega
  have d1:=htr.d1
  have d2:=htr.d2
  rw[eN]at d1 d2
  have D1:=zH d1
  have D2:=zH d2
  have A1:=h.A1
  have GO:=zH gO
  have UM:=zH um
  have GK:=zH gK
  have SK:=zH st
  clear ht0 h hq htr gO um gK st eN d1 d2
  go_enter Tryz.func5,Tryz.ntmps5
  go_wp2_with fail
  (with_reducible refine HAL.out.mono ?_)
  rintro e w1 ⟨rfl,hb1⟩
  have B1:=zH (show Below B w w1/\B<=w1.heap.size from⟨hb1,by have:=hb1.size;have:=HB.out;omega⟩)
  clear hb1 HAL
  go_wp2_with fail
  (with_reducible refine(H.out.en _).mono ?_)
  rintro e w2 ⟨rfl,hb2⟩
  have B2:=zH (al1 B1.out hb2)
  clear hb2 B1 hx1 hs hM1 hM1s ht hMm
  go_wp2_with fail
  (with_reducible refine(HPV.out _).mono ?_)
  rintro e w3 ⟨rfl,rfl⟩
  go_wp2_with fail
  (with_reducible refine(HPU.out _).mono ?_)
  rintro e w3 ⟨rfl,rfl⟩
  go_wp2_with fail
  (with_reducible refine(HPT.out _).mono ?_)
  rintro e w4 ⟨rfl,hb4⟩
  have T4:=zH (zAb (zAh w2 (.cells #[.string (Bt.pk (zAn X)),.int .i64 ((zAn X).length:Int)] TBi)) hb4)
  have B4:=zH (al2 B2.out hb4)
  obtain⟨y0,y1,_,_⟩:=zC1 T4.out
  have z0:=zCq y0 (Below.refl _ _)
  have z1:=zCq y1 (Below.refl _ _)
  have HCT:=zH (T.out.ct _ _ (qHy (w4.alloc (.cells #[.string (Bt.pk (num v u)),.int .i64 (u:Int)] TBi)) (num v u) (zAn X) (by rw[zAc]) rfl rfl rfl (zA _ _)))
  clear hb4 T4 B2 y0 y1 HPT HPU HPV
  go_wp2_with fail
  (with_reducible refine HCT.out.mono ?_)
  rintro e w5 ⟨rfl,hb5⟩
  have T5:=zH (zAb (zAb (zAh w4 (.cells #[.string (Bt.pk (num v u)),.int .i64 (u:Int)] TBi)) ((Below.refl _ _).alloc (Nat.le_refl _) _)) hb5)
  have B5:=zH (al2 (show Below B w (w4.alloc (.cells #[.string (Bt.pk (num v u)),.int .i64 (u:Int)] TBi))/\B<=(w4.alloc (.cells #[.string (Bt.pk (num v u)),.int .i64 (u:Int)] TBi)).heap.size from⟨B4.out.1.alloc B4.out.2 _,by rw[zA];have:=B4.out.2;omega⟩) hb5)
  obtain⟨_,y1,_,_⟩:=zC1 T5.out
  have x1:=zCq y1 (Below.refl _ _)
  have V6:=zH (zAh w5 (.cells #[.string d,.int .i64 (E:Int)] TBi))
  have B6:=zH (show Below B w (w5.alloc (.cells #[.string d,.int .i64 (E:Int)] TBi))/\B<=(w5.alloc (.cells #[.string d,.int .i64 (E:Int)] TBi)).heap.size from⟨B5.out.1.alloc B5.out.2 _,by rw[zA];have:=B5.out.2;omega⟩)
  clear hb5 T5 B5 B4 y1 z0 z1 HCT
  go_wp2_with fail
  clear x1
  (with_reducible refine(GO.out _).mono ?_)
  rintro e w7 ⟨rfl,rfl⟩
  go_wp2_with fail
  (with_reducible refine(UM.out _).mono ?_)
  rintro e w7 ⟨rfl,hb7⟩
  have V7:=zH (zAb V6.out hb7)
  have B7:=zH (al1 B6.out hb7)
  have i1l:=T.out.i1l
  clear hb7 B6 V6
  go_wp2_with fail
  (with_reducible refine(GK.out _).mono ?_)
  rintro e w8 ⟨rfl,rfl⟩
  have k1:K<=100:=by have:=T.out.KM;have:=T.out.M1;omega
  go_wp2_with fail
  (with_reducible refine(SK.out _).mono ?_)
  rintro e w8 ⟨a8,c8,rfl,ho8,hb8⟩
  have V8:=zH (zAb V7.out hb8)
  have B8:=zH (al1 B7.out hb8)
  have O8:=zH ho8.src
  clear hb8 B7 V7 ho8
  go_wp2_with fail
  (with_reducible refine(D1.out _).mono ?_)
  rintro e w9 ⟨a9,c9,rfl,ho9,hb9⟩
  have V9:=zH (zAb V8.out hb9)
  have B9:=zH (al1 B8.out hb9)
  have O9:=zH (O8.out.below hb9)
  have P9:=zH ho9
  clear hb9 B8 V8 ho9 O8
  go_wp2_with fail
  (with_reducible refine(D2.out _).mono ?_)
  rintro e w10 ⟨a10,c10,rfl,ho10,hb10⟩
  have V10:=zH (zAb V9.out hb10)
  have B10:=zH (al1 B9.out hb10)
  have O10:=zH (O9.out.below hb10)
  have P10:=zH (P9.out.below hb10 (Nat.le_refl _))
  have Q10:=zH ho10
  obtain⟨E0,hE0⟩:=zB w10.heap.size
  have HE0:=zH hE0
  clear hb10 B9 V9 ho10 O9 P9 hE0
  have hkk:((K:Int)!=(K:Int))=false:=by simp
  go_wp2
  clear hkk
  go_loopw [29,31,32] (fun fv sv iv wr=>∃(q f c':Nat) (p':Option Addr),q<M/\f<=200000/\iv= .int .i64 (q:Int)/\fv= .int .i64 (f:Int)/\sv= .slice p' q c'/\RowKit.Hid (i4+(zA0 (tabs ch (ts 0) (ts 1)) m 0 q).length=f)/\RowKit.Hid (Kit.Own wr E0 3 p' q c' ((m.take q).map ival))/\RowKit.Hid (Below E0 w10 wr)) (fun _ _ iv _=>M-(intOf iv).toNat)
  case atStart=>exact⟨0,i4,0,none,by have:=T.out.eM;omega,by have:=T.out.i4l;omega,rfl,rfl,rfl,zH (by simp[zA0]),zH (Kit.Own.start _ _ _),zH (Below.refl _ _)⟩
  case round=>
   obtain⟨q,f,c',p',hqM,hfl,rfl,rfl,rfl,hf,hown,hbw⟩:=hrel
   have hK1:q<10*K:=by have:=T.out.KM;omega
   obtain⟨x,hx⟩:=zB (ch.getD (q/10) 0)
   have hql:q/10<ch.length:=by rw[T.out.cl];omega
   have hxg:ch[q/10]? =some x:=by rw[<-hx,List.getD_eq_getElem?_getD,List.getElem?_eq_getElem hql];rfl
   have hx1:x<=1:=T.out.c1 x (List.mem_of_getElem? hxg)
   have hbw':Below w10.heap.size w10 wr:=by rw[HE0.out];exact hbw.out
   obtain⟨g8,o8,rfl,x8⟩:=(O10.out.below hbw') (q/10) (ival x) (by rw[List.getElem?_map,hxg];rfl)
   obtain⟨ta,tc,hta,hsrc,hbl⟩:∃ta tc,((x=0/\ta=a9/\tc=c9)\/(x=1/\ta=a10/\tc=c10))/\Kit.Src wr ta ((tabs ch (ts 0) (ts 1) (q/10)).map ival)/\(∀p,ta=some p->p.block<wr.heap.size):=by
    unfold tabs
    rw[hx]
    obtain rfl|rfl:x=0\/x=1:=by omega
    ·exact⟨a9,c9,.inl ⟨rfl,rfl,rfl⟩,by rw[if_neg (by omega)];exact P10.out.src.below hbw',fun p hp=>by have:=zNe P10.out p hp;have:=hbw'.size;omega⟩
    ·exact⟨a10,c10,.inr ⟨rfl,rfl,rfl⟩,by rw[if_pos rfl];exact Q10.out.src.below hbw',fun p hp=>by have:=zNe Q10.out p hp;have:=hbw'.size;omega⟩
   obtain⟨s1,hs1⟩:=zB (m.getD q 0)
   obtain⟨f1,hf1⟩:=zB (i4+(zA0 (tabs ch (ts 0) (ts 1)) m 0 (q+1)).length)
   have htk:=T.out.tk q hqM ta tc wr hsrc hbl
   obtain⟨hsN,hsE⟩:=T.out.mq q hqM
   rw[hs1]at htk hsN hsE
   rw[hf.out,hf1]at htk
   have hf1l:f1<=200000:=by rw[<-hf1];exact T.out.bq (q+1) hqM
   have HTK:=zH htk
   have HF1:=zH hf1
   have HS1:=zH hs1
   have HSE:=zH hsE
   have hq10:(q:Int)<10*(K:Int):=by omega
   have EN:=zH T.out.eN
   have x8':wr.cell? ⟨g8,o8+q/10,none⟩=some (.int .i64 (x:Int)):=x8
   clear hx hql hxg hx1 hbw' x8 hsrc hbl htk hs1 hf1 hsE hf
   rcases hta with⟨rfl,rfl,rfl⟩|⟨rfl,rfl,rfl⟩
   all_goals
    go_wp2_with fail
    (with_reducible refine HTK.out.mono ?_)
    rintro e w11 ⟨rfl,hb11⟩
    clear x8' HTK
    have hE0r:E0<=wr.heap.size:=by have:=hbw.out.size;have:=HE0.out;omega
    have O11:=zH (hown.out.below hb11 (Nat.le_refl _))
    have B11:=zH (hbw.out.trans (hb11.mono hE0r))
    have hE1:E0<=w11.heap.size:=Nat.le_trans hE0r hb11.size
    clear hown hbw hb11
    by_cases hend:s1+1=N
    ·have hq1:q+1=M:=HSE.out.1 hend
     have hsA:s1=A.size+1:=by have:=EN.out;omega
     have hss:((s1:Int)==(A.size:Int)+1)=true:=by simp;omega
     have hq0:m0.length=q:=by have:=T.out.eM;omega
     have hmt:m.take q=m0:=by rw[T.out.em,<-hq0,List.take_left]
     have ho:=O11.out
     rw[hmt]at ho
     have hzd:=T.out.zd p' c' w11 ho.src (zNe ho) (by rw[hq0];exact Ad.zIz ho)
     rw[hq0]at hzd
     have HZD:=zH hzd
     have hfE:f1=E:=by have h1:=HF1.out;have h2:=T.out.ee;rw[hq1]at h1;omega
     subst hfE
     clear ho hzd O11 hsA hend hq1 hmt hq0 hK1 hq10
     go_wp2_with fail
     (with_reducible refine HZD.out.mono ?_)
     rintro e w12 ⟨a12,c12,rfl,ho12,hb12⟩
     have HFB:=zH (T.out.fb a12 c12 w12 ho12.src)
     have B12:=zH (And.intro (B11.out.trans (hb12.mono hE1)) (Nat.le_trans hE1 hb12.size))
     clear ho12 hb12 HZD B11 hE1
     go_wp2_with fail
     (with_reducible refine HFB.out.mono ?_)
     rintro e w13 ⟨rfl,hb13⟩
     have B13:=zH (al1 B12.out hb13)
     clear hb13 HFB B12
     have hO:=H.out.O1
     have hn1:=H.out.n1
     go_wp2_with fail
     (with_reducible refine(T.out.ub _).mono ?_)
     rintro e w14 ⟨rfl,hb14⟩
     have B14:=zH (al1 B13.out hb14)
     clear hb14 B13
     go_wp2_with fail
     (with_reducible refine(T.out.up _).mono ?_)
     rintro e w15 ⟨rfl,hb15⟩
     have B15:=zH (al1 B14.out hb15)
     have hbE:Below w10.heap.size w10 w15:=by rw[HE0.out];exact B15.out.1
     obtain⟨y0,y1,_,_⟩:=zC1 (zAb V10.out hbE)
     have BB:=zH (B10.out.1.trans (hbE.mono B10.out.2))
     have htt:(t.toList==t.toList)=true:=by simp
     clear hb15 B14 hbE y0
     go_wp2
     go_ret
     exact⟨rfl,BB.out⟩
    ·have hss:((s1:Int)==(A.size:Int)+1)=false:=by have:=EN.out;simp;omega
     have hq1:q+1<M:=by
      have:=HSE.out.2
      rcases Nat.lt_or_ge (q+1) M with h|h
      ·exact h
      ·exact absurd (this (by omega)) hend
     have hM1:=T.out.M1
     obtain⟨p3,c3,w12,hr12,ho12,hb12⟩:=zMb O11.out s1 (by omega) hE1
     have hqm:q<m.length:=by have:=T.out.em;have:=T.out.eM;rw[T.out.em,List.length_append];simp;omega
     have htake:m.take (q+1)=m.take q++[s1]:=by
      rw[List.take_succ_eq_append_getElem hqm,<-HS1.out,List.getD_eq_getElem?_getD,List.getElem?_eq_getElem hqm];rfl
     have O12:=zH (show Kit.Own w12 E0 3 p3 (q+1) c3 ((m.take (q+1)).map ival)by rw[htake];exact ho12)
     have B12:=zH (B11.out.trans hb12)
     clear ho12 hb12 htake hqm B11 O11 hE1 hend
     go_wp2_with (at_builtin;refine Kit.zAr rfl (.tmp 204) (.tmp 206) 23 rfl rfl rfl hr12 ?_)
     go_roundw
     case rel=>exact⟨q+1,f1,c3,p3,hq1,hf1l,by go_num,rfl,rfl,HF1,O12,B12⟩
     case measure=>simp only[intOf];omega
end Al
end Go.Proofs.YtppnakkaljbmbaaGreatDoor
