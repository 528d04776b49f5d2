/- Steps of a proof; no condition beyond what each states. -/
import Derived.Test.YtppnakkaljbmbaaGreatDoorZX00
import Derived.Test.YtppnakkaljbmbaaGreatDoorZX22
import Derived.Test.YtppnakkaljbmbaaGreatDoorZX23
set_option linter.unusedVariables false
set_option linter.unusedSimpArgs false
set_option maxRecDepth 100000
set_option maxHeartbeats 8000000
open List renaming length->kG
open Go.Proofs.YtppnakkaljbmbaaGreatDoor.Kit renaming Src->yZ,Own->yg,zAg->yh
open Go.Proofs.YtppnakkaljbmbaaGreatDoor.Crc renaming sum->yu,U->xD
open Go.Proofs.YtppnakkaljbmbaaGreatDoor.Rle renaming bs->yw,Len->xW
open Go.RowKit
open Go.Proofs.Tryz
open Go.Value renaming int->qV,string->qW,slice->qX,pointer->qY,tuple->qZ,bool->qc
open Go.IntKind renaming i64->qj
open Go.Obj renaming cells->qm
open Go.Ending renaming returned->qp
open Option renaming some->qw,none->qx
open Go renaming World->qy,Value->qz,TypeId->yA,Addr->yB,Calls->yC
open Bool renaming true->yD,false->yE
open Go.Proofs.Tryz renaming prog->yG
open Go.RowKit renaming Hid->yH,Below->yI
open List renaming range->yK
open Go.World renaming cell?->yM
open Go.RowKit.Below renaming refl->yN
open And renaming intro->yO
namespace Go.Proofs.YtppnakkaljbmbaaGreatDoor
namespace Bk
open Hf Bt Zr Front Wg Ch Sl Sq Us St Tn
variable {w w':qy} {R D n c:Nat} {e:yA} {a:Option yB} {xs:List qz}
structure Old (w:qy) (R Q:Nat) (A:ByteArray) (O:Nat) (sa:Option yB) (sn sc:Nat) (p:Option yB) (cp:Nat) (q:Option yB) (qn cq:Nat) (G0 G1 n:Nat) (m t0 t1 ch:List Nat):Prop where
 size:w.heap.size=R
 var:w.heap[Q]? =qw (qm #[qW A,qV qj (O:Int),qX sa sn sc] Sq.TQ)
 syms:yZ w sa (m.map ival)
 tabs:yZ w p [qX (qw ⟨G0,0,qx⟩) n n,qX (qw ⟨G1,0,qx⟩) n n]
 one:yZ w (qw ⟨G0,0,qx⟩) (t0.map ival)
 two:yZ w (qw ⟨G1,0,qx⟩) (t1.map ival)
 cho:yZ w q (ch.map ival)
theorem zXb (h:yg w D e a n c xs) (p:StB w w' R) (o:e≠TB_) (s:R<D):yg w' D e a n c xs:=by
 obtain⟨m,k⟩:=h;refine⟨m,?_⟩;rcases k with k|⟨g,i,b,hv,d,l,r⟩
 ·exact .inl k
 ·exact .inr ⟨g,i,b,hv,d,(p.old g (zAd l) za (fun q f j=>by rw[l]at j;injection j with j;injection j with _ j _;exact o j)).trans l,r⟩
theorem qB8 {p:Option yB} {k:Nat} {j:List qz} {b:List (List Nat)} (h:Gr w D p k c j b) (f:StB w w' R) (d:R<D):Gr w' D p k c j b:=
 ⟨zXb h.own f z8 d,h.len,fun i g q=>by
  obtain⟨G,c',l,m,o⟩:=h.each i g q;exact⟨G,c',l,m,zXb o f z8 d⟩⟩
theorem zC9 (b:Nat) (d:1<=b) (f:b<=360) (w:qy):yC yG 67 #[qV qj (b:Int)] w fun e w'=>e=qp (qc yD)/\w'=w:=by
 have g:decide ((1:Int)<=(b:Int))=yD:=qP9 za;have h:decide ((b:Int)<=360)=yD:=qP9 za;go_enter func67,ntmps67;go_wp2;go_ret;exact⟨rfl,rfl⟩
theorem zTp {B:Nat} {l:List (List Bool)} (h:Kit.Own' LB w B e a n c l):n<=c/\True/\True:=by
 refine⟨?_,trivial,trivial⟩;rcases h.2 with⟨b,_⟩|⟨g,d,f,hv,_,_,i,_⟩
 ·injection b with _ h3 h4;omega
 ·injection hv with _ _ hc;omega
theorem zIr (h:yZ w a xs) (d:0<kG xs):∃b c,a=qw ⟨b,c,qx⟩:=by
 obtain⟨b,c,f,_⟩:=h 0 xs[0] (qPu d);exact⟨b,c,f⟩
theorem zFv (R:Nat) (a:Option yB) (n c:Nat) (ls:List (List Bool)) (v k:Nat) (V K:Int) (d:V=(v:Int)) (b:K=(k:Int)) (w:qy) (h:BW w R a n c ls) (g:n<=100000) (hv:v<18446744073709551616) (f:k<=64):
  yC yG 71 #[qY (qw ⟨R,0,qx⟩),qV .u64 V,qV qj K] w fun e w'=>e=qp (qZ #[])/\∃a' c',BW w' R a' (n+1) c' (ls++[num v k])/\StB w w' R:=by
 subst d b;exact zSd R a n c ls v k w h g hv f
theorem zD8 (s:ByteArray) (x:List UInt8) (hx:s.data.toList=x) (h0:0<s.size) (hs:s.size<=100000) (f9:Nat) (ae:1<=f9) (fc:f9<=360) (hl:xW x<=f9) (w:qy):
  yC yG 17 #[qW s,qV qj (f9:Int)] w fun e w'=>e=qp (qZ #[zAe (zAn x),qV qj 0])/\yI w.heap.size w w':=by
 have fo:kG x=s.size:=by rw[<-hx];simp
 have P:=zJp x za;have ct:=zFy x;obtain⟨B,hB⟩:=zB w.heap.size;have j1:s.toList.isEmpty=yE:=by
  rw[qS8,List.isEmpty_eq_false_iff];intro e;have:kG s.data.toList=0:=by rw[e];rfl
  rw[Array.length_toList]at this;have:s.size=0:=this;omega
 have j2:decide (f9<xW x)=yE:=qP1 za;obtain⟨dj,dp,bu⟩:=yR (fun W=>zC9 f9 ae fc W) (fun W=>by have h:=Rle.zVz s hs W;rw[hx]at h;exact h) (fun W=>by have h:=Rle.zR8 s hs W;rw[hx]at h;exact h);obtain⟨p,hp⟩:=zB (pkT x);rw[show yw (Rle.pack x)=p from by unfold yw;exact hp]at bu;rw[hp]at P ct;have cx:p.size<=1000:=za
 have c6:=zH (fun W=>zSh p P cx W);have es:=zFk p;have ao:=zF8 p P;have bq:=zIo p;have c7:1<=kG (sym p):=by rw[zCv];omega
 have X:=zPz p P;obtain⟨A,hA⟩:=zB (zAj p);obtain⟨O,hO⟩:=zB (zA8 p);have eb:=zDq p P;obtain⟨m,hm⟩:=zB (sym p);obtain⟨N,hN⟩:=zB (codes p);have cm:N=A.size+2:=by rw[<-hN,<-hA];rfl
 rw[hA,hm]at X;rw[hA]at es;rw[hO]at eb;rw[hm]at bq c7;rw[hN]at ao;rw[hA,hO,hm]at c6;obtain⟨dm,ck,HX,HP,HA,HO,HM,HN,dx⟩:=yY (fun(c1:Option yB) (c2 c3:Nat) (W:qy)=>by have h:=zO4 A O c1 c2 c3 za W;rw[show(A.size:Int)+2=(N:Int)by omega]at h;exact h) (fun(a:Option yB) (k c:Nat) (W:qy) (hk:kG m=k) (fb:k<=c) (fe:yZ W a (m.map ival)) (ha:∀p,a=qw p->p.block<W.heap.size)=>zL0 m N a k c W hk fb za za za za fe (fun s fd=>by have:=X s fd;omega) ha) hx hp hA hO hm hN X;obtain⟨f2,am⟩:=yQ bq cm;clear hx hp hA hO hm hN X ct hl cm;go_enter func17,ntmps17;go_wp2_with fail;(with_reducible refine(dj.out _).mono ?_);rintro e w1 ⟨rfl,rfl⟩;obtain⟨W1,a3⟩:=zB (w.alloc (qm #[qW ⟨#[]⟩,qV qj 0] TB_));have r1:W1.heap[B]? =qw (qm #[qW ⟨#[]⟩,qV qj 0] TB_):=by rw[<-a3,<-hB];exact zAh w _
 have b1:yI B w W1:=by rw[<-a3,<-hB];exact(yN _ _).alloc (qPq _) _
 have z1:W1.heap.size=B+1:=by rw[<-a3,zA,hB]
 obtain⟨cw,R1,B1,Z1,f3⟩:=yT a3 r1 b1 z1 hB;clear a3 r1 b1 z1;go_wp2_with fail;rw[show w.alloc (qm #[qW ⟨#[]⟩,qV qj 0] TB_)=W1 from cw.out];(with_reducible refine(dp.out _).mono ?_);rintro e w2 ⟨rfl,a0⟩;rw[Z1.out]at a0;have cv:=a0.size;rw[Z1.out]at cv;obtain⟨R2,B2⟩:=yQ ((a0.block B za).trans R1.out) (B1.out.trans (a0.mono za));clear a0 R1 B1 Z1 cw dp;go_wp2_with fail;(with_reducible refine(bu.out _).mono ?_);rintro e w3 ⟨rfl,ai⟩;have er:=ai.size;obtain⟨R3,B3⟩:=yQ ((ai.block B za).trans R2.out) (B2.out.trans (ai.mono za));clear ai R2 B2 bu j2;go_wp2_with fail;(with_reducible refine(c6.out _).mono ?_);rintro e w4 ⟨sa,sc,rfl,aq,aj⟩;have el:=aj.size;obtain⟨Q,hQ⟩:=zB w4.heap.size;obtain⟨K,hK⟩:=zB (kG m);rw[hK]at aq;have ci:K<=sc:=by
  have h5:=Ad.zIz aq;rcases h5 with⟨_,h6,_⟩|⟨h6,_⟩
  ·omega
  ·exact h6
 obtain⟨z,t⟩:=zB (w4.alloc (qm #[qW A,qV qj (O:Int),qX sa K sc] Sq.TQ));have z5:z.heap.size=Q+1:=by rw[<-t,zA,hQ]
 have V5:=yP (z.heap[Q]? =qw (qm #[qW A,qV qj (O:Int),qX sa K sc] Sq.TQ)) (by rw[<-t,<-hQ];exact zAh w4 _);have R5:=yP (z.heap[B]? =qw (qm #[qW ⟨#[]⟩,qV qj 0] TB_)) (by rw[<-t,Lib.alloc_old w4 _ B za,aj.block B za];exact R3.out);have B5:=yP (yI B w z) (by rw[<-t];exact(B3.out.trans (aj.mono za)).alloc za _);have O5:=yP (yg z w3.heap.size 3 sa K sc (m.map ival)) (by rw[<-t];exact aq.alloc _);have fj:B+1<=Q:=za
 obtain⟨cy,cu,HK⟩:=yR t hQ hK;rw[hK]at f2 c7 bq;clear aj aq R3 B3 c6 t hQ cv er el hK;unfold qv at*;have fl:=ao.2;have x0:=yP (∀W,W.heap[Q]? =qw (qm #[qW A,qV qj (O:Int),qX sa K sc] Sq.TQ)->(loadVar 23 ⟨Q,2,qx⟩).run yG W= .ok (qX sa K sc) W) fun W h=>yh (cells3 h).2.2.1 zf zf;have x1:=yP (∀W,W.heap[Q]? =qw (qm #[qW A,qV qj (O:Int),qX sa K sc] Sq.TQ)->(loadVar Sq.TQ ⟨Q,0,qx⟩).run yG W= .ok (.agg #[qW A,qV qj (O:Int),qX sa K sc]) W) (fun W h=>by
  obtain⟨y0,y1,y2,_⟩:=cells3 h;simp[loadVar,go_sem,y0,y1,y2])
 have bx:=zH (fun(W:qy) (hW:yI z.heap.size z W)=>ck.out sa K sc W HK.out ci (O5.out.src.below hW) (fun q hq=>by
  obtain⟨b,ak,y,hc⟩:=O5.out.src 0 (ival (m[0]'(by rw[HK.out];omega))) (by rw[qP2,qPu (by rw[HK.out];omega)];rfl);rw[hq]at y;injection y with y
  subst y;exact qQv (qQk hc) hW.size))
 rw[z5]at bx;go_wp2;rw[cu.out,HK.out,show w4.alloc (qm #[qW A,qV qj (O:Int),qX sa K sc] Sq.TQ)=z from cy.out];refine zS [4] (fun W9=>W9.heap[Q]? =qw (qm #[qW A,qV qj (O:Int),qX sa K sc] Sq.TQ)) [0,1,0,4,10,16,32,32,32,127,767,2047] 12<|zu 0 38 (zP Q 2)<|zy 1 39 (qX sa K sc) (fun w hS=>zl 23 38 (x0.out _ hS)) (show z.drew.heap[Q]? =_ from V5.out)<|zp [2]<|zt 40 (.agg #[qW A,qV qj (O:Int),qX sa K sc]) ((fun w hS=>zl 133 6 (x1.out _ hS)) _ ((show z.drew.heap[Q]? =_ from V5.out)))<|zn<|zc 3 41 70 #[.agg #[qW A,qV qj (O:Int),qX sa K sc]] (zI N) (dm.out sa K sc _)<| ?_
 refine fun w6 fa=>⟨.inr (.inr ((fa.block Q (by show Q<z.heap.size;omega)).trans V5.out)),?_⟩;have e8:=fa.size;have F:yI (Q+1) z w6:=by have h:=(show yI z.heap.size z z.drew from(yN _ _).drew).trans fa;rw[z5]at h;exact h
 have dq:=zH (bx.out w6 F);refine zx 4 42 23 #[qX sa K sc,qV qj (N:Int)] dq.out<| ?_
 rintro e w7 ⟨tp,tc,cq,cc,G0,G1,rfl,s0,s1,s2,s3,ar⟩;have V7:=zH ((ar.block Q (by show Q<w6.heap.size;exact qQv (show Q<z.heap.size by omega) F.size)).trans ((fa.block Q (by show Q<z.heap.size;omega)).trans V5.out));refine⟨_,rfl,.inr (.inr V7.out),?_⟩;refine zp [5,6,7,8,9,10,11]<|zk 37 (qZ #[qX tp 2 tc,qX cq (kG (grp m)) cc,qV qj 0])<|zk 43 (qX tp 2 tc)<|zk 44 (qX cq (kG (grp m)) cc)<|zk 45 (qV qj 0)<|zk 8 (qX tp 2 tc)<|zk 9 (qX cq (kG (grp m)) cc)<|zk 10 (qV qj 0)<|zn<|zE<| ?_
 simp only[zP,zI,Act.put,qPz,qPy,qP0];obtain⟨R,hR⟩:=zB w7.heap.size;have ds:=F.size;have e0:=ar.size;have ah:yI (Q+1) z w7:=F.trans (ar.mono za);have S7:=zH (⟨hR,V7.out,O5.out.src.below (by rw[z5];exact ah),s0,s1,s2,s3⟩:Old w7 R Q A O sa K sc tp tc cq (kG (grp m)) cc G0 G1 N m (tb m N 0) (tb m N 1) (chosen m N));obtain⟨KG,M⟩:=zB (kG (grp m));have ff:KG<=101:=by rw[<-M,zBx,HK.out];omega
 have fg:0<KG:=by rw[<-M,zBx,HK.out];omega
 rw[M]at S7;have R7:=yP (w7.heap[B]? =qw (qm #[qW ⟨#[]⟩,qV qj 0] TB_)) ((ah.block B za).trans R5.out);have B7:=zH (B5.out.trans (ah.mono za));have ca:Q<R:=za
 obtain⟨ap,HR⟩:=yQ M hR;rw[M];clear fa e8 dq F s0 s1 s2 s3 ar V7 hR ds e0 ah ck dm O5 B5 R5 V5 x0 x1 bx z5 M dj cy cu;obtain⟨t0,a2⟩:=zB (tb m N 0);obtain⟨t1,l⟩:=zB (tb m N 1);obtain⟨ch,a4⟩:=zB (chosen m N);rw[a2,l,a4]at S7;obtain⟨fq,fs,rfl⟩:=zIr S7.out.tabs zm;have b6:kG ch=KG:=by rw[<-a4,zIe];exact ap.out
 have ba:∀u∈ch,u<=1:=by rw[<-a4];exact zGr m N
 obtain⟨ey,e5,rfl⟩:=zIr S7.out.cho (by rw[qQi];omega);have dh:Right t0:=by rw[<-a2];exact zDn m N 0 za ao.2 (by rw[HK.out];omega)
 have ae:Right t1:=by rw[<-l];exact zDn m N 1 za ao.2 (by rw[HK.out];omega)
 have d5:kG t0=N:=by rw[<-a2];exact zG5 _ _ _
 have cg:kG t1=N:=by rw[<-l];exact zG5 _ _ _
 obtain⟨d6,dc,d7,de,bf,cn⟩:=yU dh ae d5 cg b6 ba;clear dh ae d5 cg b6 ba;obtain⟨cr,dl,db⟩:=yR a2 l a4;clear a2 l a4;have ad:=Crc.zG7 s (by unfold maxLen;omega);rw[HX.out]at ad;have dy:=Crc.zN0 (yu x);have dv:=Crc.zN1 (yu x);have av:=zH ad;clear ad;go_wp2_with fail;rw[HR.out];obtain⟨w8,an⟩:=zB (w7.alloc (qm #[qX qx 0 0] TW));rw[show w7.alloc (qm #[qX qx 0 0] TW)=w8 from an];have cd:=yP (BW w8 R qx 0 0 []) ⟨by rw[<-an,<-HR.out];exact zAh w7 _,Kit.Own'.start _ _ _⟩;have cz:=yP (yI R w7 w8) (by rw[<-an,<-HR.out];exact(yN _ _).alloc (qPq _) _);clear an;(with_reducible refine(zFv R qx 0 0 [] zA4 48 54156738319193 48 rfl rfl w8 cd.out za (by unfold zA4;omega) za).mono ?_);rintro e w9 ⟨rfl,a9,c9,d,f⟩;obtain⟨br,da⟩:=yQ d (cz.out.trans f.below);clear d f cd cz;go_wp2_with fail;(with_reducible refine(av.out w9).mono ?_);rintro e ei ⟨rfl,y⟩;obtain⟨bg,bj⟩:=yQ (br.out.below y rfl) (da.out.trans (y.mono (qP6 br.out.lt)));clear y br da av;go_wp2_with fail;(with_reducible refine(zFv R a9 _ c9 _ (zBa x) 32 (xD (yu x)) 32 (by unfold xD zBa;rfl) rfl ei bg.out za (by unfold zBa;have:=(yu x).isLt;omega) za).mono ?_);rintro e eg ⟨rfl,eu,ej,d,f⟩;obtain⟨bi,a5⟩:=yQ d (bj.out.trans f.below);clear d f bg bj;obtain⟨y0,y1,y2,_⟩:=cells3 ((a5.out.block Q ca).trans S7.out.var);clear dy dv;go_wp2_with fail;clear y0 y1 y2;(with_reducible refine(zFv R eu _ ej _ O 16 (O:Int) 16 rfl rfl eg bi.out za za za).mono ?_);rintro e f7 ⟨rfl,et,ev,d,f⟩;obtain⟨a8,a7⟩:=yQ d (a5.out.trans f.below);clear d f bi a5;obtain⟨y0,y1,y2,_⟩:=cells3 ((a7.out.block Q ca).trans S7.out.var);have di:=zH (zTv A za f7);go_wp2_with fail;clear y0 y1 y2;(with_reducible refine di.out.mono ?_);rintro e ew ⟨rfl,y⟩;obtain⟨ay,b0⟩:=yQ (a8.out.below y rfl) (a7.out.trans (y.mono (qP6 a8.out.lt)));clear y a8 a7;clear di;go_wp2_with fail;(with_reducible refine(zHk R et _ ev _ (zC2 (bl A)) 0 ew ay.out za).mono ?_);rintro e ex ⟨rfl,e3,eo,d,f⟩;obtain⟨b5,b3⟩:=yQ d (b0.out.trans f.below);clear d f ay b0;go_wp2_with fail;(with_reducible refine(zFv R e3 _ eo _ 2 3 2 3 rfl rfl ex b5.out za za za).mono ?_);rintro e ed ⟨rfl,f6,ek,d,f⟩;obtain⟨b9,bc⟩:=yQ d (b3.out.trans f.below);clear d f b5 b3;go_wp2_with fail;(with_reducible refine(zFv R f6 _ ek _ KG 15 (KG:Int) 15 rfl rfl ed b9.out za za za).mono ?_);rintro e ez ⟨rfl,e4,e7,d,f⟩;obtain⟨aa,a6⟩:=yQ d (bc.out.trans f.below);clear d f b9 bc;have o:=zH S7.out.size;have cf:=zH (zK2 ch (qw ⟨ey,e5,qx⟩) KG cc ez bf.out za (S7.out.cho.below (by rw[o.out];exact a6.out)) cn.out);go_wp2_with fail;(with_reducible refine cf.out.mono ?_);rintro e f5 ⟨rfl,y⟩;obtain⟨bh,b8⟩:=yQ (aa.out.below y rfl) (a6.out.trans (y.mono (qP6 aa.out.lt)));clear y aa a6;clear cf;go_wp2_with fail;(with_reducible refine(zHk R e4 _ e7 _ (zAz yE ch) 0 f5 bh.out za).mono ?_);rintro e f8 ⟨rfl,d4,cj,d,f⟩;obtain⟨bo,bb⟩:=yQ d (b8.out.trans f.below);clear d f bh b8;have d0:=yP (BW f8 R d4 7 cj (zCg x)) (by
  have h:=bo.out;have e:[]++[num zA4 48]++[num (zBa x) 32]++[num O 16]++[zC2 (bl A)]++[num 2 3]++[num KG 15]++[zAz yE ch]=zCg x:=by
   unfold zCg cho codes;rw[HP.out,HA.out,HO.out,HM.out,<-am.out,db.out,bf.out];rfl
  rw[e]at h;exact h)
 clear bo;go_wp2;go_loopw [71] (fun iv wr=>∃(i c:Nat) (a:Option yB),i<=2/\iv=qV qj i/\yH (BW wr R a (7+i) c (zCg x++(yK i).map fun k=>delta (if k=0 then t0 else t1)))/\yH (yI R w7 wr)) (fun iv _=>2-(intOf iv).toNat)
 case atStart=>exact⟨0,cj,d4,za,rfl,zH (by simpa using d0.out),bb⟩
 case round=>
  clear d0 bb;obtain⟨i,c,a,hi,rfl,d,j⟩:=hrel;by_cases af:i<2
  ·have hS:=S7.out.tabs.below (by rw[o.out];exact j.out);obtain⟨Gi,ti,a1,cb⟩:∃Gi ti,([Value.slice (qw ⟨G0,0,qx⟩) N N,Value.slice (qw ⟨G1,0,qx⟩) N N]:List qz)[i]? =qw (qX (qw ⟨Gi,0,qx⟩) N N)/\(ti=(if i=0 then t0 else t1)/\yZ wr (qw ⟨Gi,0,qx⟩) (ti.map ival)/\Right ti/\kG ti=N):=by
    obtain rfl|rfl:i=0\/i=1:=za
    ·exact⟨G0,t0,rfl,rfl,S7.out.one.below (by rw[o.out];exact j.out),d6.out,d7.out⟩
    ·exact⟨G1,t1,rfl,rfl,S7.out.two.below (by rw[o.out];exact j.out),dc.out,de.out⟩
   obtain⟨b,ak,H,x0⟩:=hS i _ a1;injection H with H
   injection H with e1 e2 _
   subst e1 e2;obtain⟨l,V,I,S⟩:=cb;have df:=zI8 ti I.top;obtain⟨HD,HT⟩:=yQ (zLj ti (qw ⟨Gi,0,qx⟩) N N wr S za za V (fun u hu=>⟨I.one u hu,I.top u hu⟩) (by rw[S]at df;omega)) l;clear a1 hS l V I S df;go_wp2_with fail;(with_reducible refine HD.out.mono ?_);rintro e ep ⟨rfl,y⟩;obtain⟨bw,bd⟩:=yQ (d.out.below y rfl) (j.out.trans (y.mono (qP6 d.out.lt)));clear y d j HD x0;go_wp2_with fail;(with_reducible refine(zHk R a _ c _ (delta ti) 0 ep bw.out za).mono ?_);rintro e eh ⟨rfl,dd,dg,d,f⟩;have du:=yP (BW eh R dd (7+(i+1)) dg (zCg x++(yK (i+1)).map fun k=>delta (if k=0 then t0 else t1))) (by
    rw[qQu,qQd,<-qQw];simp only[qQa,qSq];rw[<-HT.out];exact d)
   have dr:=zH (bd.out.trans f.below);clear d f bw bd;go_wp2;go_roundw
   case rel=>exact⟨i+1,dg,dd,za,by go_num,du,dr⟩
   case measure=>simp only[intOf];omega
  ·obtain rfl:i=2:=za
   have ab:=yP (BW wr R a 9 c (zCg x++[delta t0,delta t1])) d.out;obtain⟨y0,y1,y2,_⟩:=cells3 ((j.out.block Q ca).trans S7.out.var);have Z:=S7.out.syms.below (w':=wr) (by rw[o.out];exact j.out);obtain⟨en,ee,rfl⟩:=zIr Z (by rw[qQi,HK.out];exact c7);have bp:=zH (zH8 m (qw ⟨en,ee,qx⟩) K sc wr HK.out za ci Z (fun q hq=>by
    obtain⟨b,ak,y,hc⟩:=Z 0 (ival (m[0]'(by rw[HK.out];omega))) (by rw[qP2,qPu (by rw[HK.out];omega)];rfl);rw[hq]at y;injection y with y
    subst y;exact qQk hc))
   rw[ap.out]at bp;clear d Z;go_wp2_with fail;(with_reducible refine bp.out.mono ?_);rintro e ft ⟨gp,gc,vs,rfl,r,y⟩;have cs:R<wr.heap.size:=ab.out.lt;obtain⟨D,hD⟩:=zB wr.heap.size;rw[hD]at r cs;obtain⟨bn,ax,bk⟩:=yR (ab.out.below y rfl) (j.out.trans (y.mono za)) r;clear y ab j y0 y1 y2 bp r hD;go_wp2;obtain⟨wo,rfl⟩:∃wo,wo=wr:=⟨_,rfl⟩;go_loopw [85] (fun iv wr=>∃(i c:Nat) (a:Option yB),i<=KG/\iv=qV qj i/\yH (BW wr R a (9+i) c (zCg x++[delta t0,delta t1]++(yK i).map (zBe p)))/\yH (yI R w7 wr)/\yH (Gr wr D gp KG gc vs (grp m))) (fun iv _=>KG-(intOf iv).toNat)
   case atStart=>exact⟨0,c,a,za,rfl,zH (by simpa using bn.out),ax,bk⟩
   case round=>
    clear bn ax bk;obtain⟨i,c,a,hi,rfl,d,j,r⟩:=hrel;by_cases af:i<KG
    ·obtain⟨g,hg⟩:∃g,(grp m)[i]? =qw g:=⟨_,qPu (by rw[ap.out];exact af)⟩;obtain⟨G,c',hv,e6,Y⟩:=r.out.each i g hg;obtain⟨ea,f4,co⟩:=zHg (qSt hg);obtain⟨L,hL⟩:=zB (kG g);rw[hL]at hv e6 Y f4;obtain⟨g0,rfl,_,_,_,ag,_⟩:=r.out.own.at_ za;have x0:=ag i af;rw[hv]at x0;have b7:i<kG ch:=by rw[bf.out];exact af
     obtain⟨b,ak,H,x1⟩:=(S7.out.cho.below (w':=wr) (by rw[o.out];exact j.out)) i (ival ch[i]) (by rw[qP2,qPu b7];rfl);injection H with H
     injection H with e1 e2 _
     subst e1 e2;obtain⟨k,hk⟩:=zB (ch[i]);have fm:k<=1:=by rw[<-hk];exact cn.out _ (qQ b7)
     rw[hk]at x1;have au:zGb p i=if k=1 then t1 else t0:=by
      unfold zGb cho tab codes;rw[HM.out,HA.out,<-am.out,db.out,cr.out,dl.out,qPw,qPu b7,qQ4,hk]
     obtain⟨Gi,ti,a1,cb⟩:∃Gi ti,([Value.slice (qw ⟨G0,0,qx⟩) N N,Value.slice (qw ⟨G1,0,qx⟩) N N]:List qz)[k]? =qw (qX (qw ⟨Gi,0,qx⟩) N N)/\(zGb p i=ti/\yZ wr (qw ⟨Gi,0,qx⟩) (ti.map ival)/\Right ti/\kG ti=N):=by
      obtain rfl|rfl:k=0\/k=1:=za
      ·exact⟨G0,t0,rfl,au,S7.out.one.below (by rw[o.out];exact j.out),d6.out,d7.out⟩
      ·exact⟨G1,t1,rfl,au,S7.out.two.below (by rw[o.out];exact j.out),dc.out,de.out⟩
     obtain⟨b2,fh,ac,x2⟩:=(S7.out.tabs.below (w':=wr) (by rw[o.out];exact j.out)) k _ a1;injection ac with ac
     injection ac with e1 e2 _
     subst e1 e2;obtain⟨l,V,I,S⟩:=cb;have b4:=zH (zRq ti (qw ⟨Gi,0,qx⟩) N N g (qw ⟨G,0,qx⟩) L c' wr S V (fun q hq=>by
      obtain⟨b,ak,y,hc⟩:=V 0 (ival (ti[0]' za)) (by rw[qP2,qPu za];rfl);rw[hq]at y;injection y with y
      subst y;exact qQk hc) I hL za Y.src (fun u hu=>by have:=dx.out u (co u hu);have h5:=am.out;omega))
     have d9:=yP (g.flatMap (word ti)=zBe p i) (by unfold zBe groups;rw[HM.out,qPw,hg,qQ4,l])
     rw[d9.out]at b4;clear hg hv Y ea co ag hk au a1 l V I S hL;unfold ival at x1;go_wp2_with fail;(with_reducible refine b4.out.mono ?_);rintro e e9 ⟨rfl,y⟩;obtain⟨bz,c8,az⟩:=yR (d.out.below y rfl) (j.out.trans (y.mono (qP6 d.out.lt))) (r.out.below y (qPq _));clear y d j r b4 x0 x1 x2 d9;go_wp2_with fail;(with_reducible refine(zHk R a _ c _ (zBe p i) 0 e9 bz.out za).mono ?_);rintro e em ⟨rfl,ce,d8,d,f⟩;have dw:=yP (BW em R ce (9+(i+1)) d8 (zCg x++[delta t0,delta t1]++(yK (i+1)).map (zBe p))) (by
      rw[qQu,qQd,<-qQw];exact d)
     obtain⟨dt,dz⟩:=yQ (c8.out.trans f.below) (qB8 az.out f cs);clear d f bz c8 az;go_wp2;go_roundw
     case rel=>exact⟨i+1,d8,ce,za,by go_num,dw,dt,dz⟩
     case measure=>simp only[intOf];omega
    ·obtain rfl:KG=i:=za
     have cp:zCg x++[delta t0,delta t1]++(yK KG).map (zBe p)=zIg x:=by
      unfold zIg;rw[HP.out,show(groups p).length=KG from by unfold groups;rw[HM.out,ap.out]];unfold tab codes;rw[HM.out,HA.out,<-am.out,cr.out,dl.out]
     have n:=yP (BW wr R a (9+KG) c (zIg x)) (by rw[<-cp];exact d.out);have ef:=zLp x (by rw[HP.out];exact P) (by rw[HP.out];exact cx);obtain⟨z0,fp,_⟩:=zTp n.out.own;have d1:=zH (zFs a (9+KG) c (zIg x) wr n.out.own.len z0 za (zFd n.out.own) (by show(zAn x).length<=1000000;omega));have x0:wr.cell? ⟨R,0,qx⟩=qw (qX a (9+KG) c):=by simp[yM,n.out.blk]
     clear cp d ef;rw[show(zIg x).flatten=zAn x from rfl]at d1;go_wp2_with fail;(with_reducible refine d1.out.mono ?_);rintro e fu ⟨rfl,y⟩;have d2:B<R:=za
     have d3:=(y.block B (by have:=n.out.lt;omega)).trans ((j.out.block B d2).trans R7.out);obtain⟨y0,y1,f0,f1⟩:=zAf d3;have ec:=zH (B7.out.trans ((j.out.mono (qP6 d2)).trans (y.mono (by have:=n.out.lt;omega))));clear x0 y d3 j n;unfold zAe;go_wp2;refine qP5 (zEk rfl _ _ B _ _ _ rfl rfl (Bt.zCy y0) (Bt.zCx y1)) rfl ⟨rfl,?_⟩;rw[f3.out];exact zCs ec.out (qPq _)
end Bk
namespace Bk
open Hf Bt Zr Ch Sl Sq Tn
theorem qB (p q:yB) (w:qy):
  CallsD yG 284 #[qY (qw p),qY (qw q)] .returning w fun e u' w'=>e=qp (qZ #[])/\u'= .returning/\w'=w:=by
 refine callsD_of_wpS func284 rfl fun a c b=> ?_;apply wpS_seq;apply wpS_region;simp[wpOpsS,go_sem,recoverD,b,ntmps284,Exit.thenS];refine wpS_of_wp ?_;go_wp2;cases a;simp_all [bodyPostS,results,results284]
theorem zDf {w:qy} {B:Nat} {u v x y:qz} {t:yA} (h:w.heap[B]? =qw (qm #[u,v,x,y] t)):(w.cell? ⟨B,0,qx⟩=qw u/\w.cell? ⟨B,1,qx⟩=qw v/\w.cell? ⟨B,2,qx⟩=qw x/\w.cell? ⟨B,3,qx⟩=qw y)/\w.frozen? ⟨B,0,qx⟩=yE/\w.frozen? ⟨B,1,qx⟩=yE/\w.frozen? ⟨B,2,qx⟩=yE/\w.frozen? ⟨B,3,qx⟩=yE:=by
 refine⟨⟨?_,?_,?_,?_⟩,?_,?_,?_,?_⟩<;>simp[yM,World.frozen?,h]
abbrev zEf:yA:=105
def qGe (s:ByteArray) (u i j:Nat):qz:= .agg #[qW s,qV .u32 (u:Int),qV qj (i:Int),qV qj (j:Int)]
theorem zFi (i y:Nat) (a s:ByteArray) (x:List UInt8) (w:qy) (hs:a.size<=100000000) (Y:s.data.toList=x) (h0:0<kG x) (a1:1<=y) (a2:y<=360) (hl:xW x<=y) (ha:At a i (zAn x)):
  yC yG 247 #[qW a,qV qj (i:Int),qV qj (y:Int)] w fun e w'=>e=qp (qZ #[qGe s (zBa x) i (i+kG (zAn x)),qV qj 0])/\yI w.heap.size w w':=by
 have a4:∀(fn:Fn) (first a0:Array qz) (w:qy),(Instr.makeFunc fn first a0).run yG w= .ok (.func fn first a0) w:=fun _ _ _ _=>rfl;obtain⟨B,X⟩:=zB w.heap.size;have K:=zH X;obtain⟨O,c⟩:=zB (w.alloc (qm #[qW ⟨#[]⟩,qV .u32 0,qV qj 0,qV qj 0] zEf));obtain⟨P,b⟩:=zB (O.alloc (qm #[qV qj 0] 26));obtain⟨q,d⟩:=zB (P.alloc (qm #[qW a,qV qj (i:Int),qX qx 0 0,qX qx 0 0,qV qj 0] TRd));have Z:O.heap.size=B+1:=by rw[<-c,zA,X]
 have z2:P.heap.size=B+2:=by rw[<-b,zA,Z]
 have b1:yI B w O:=by rw[<-c,<-X];exact(yN _ _).alloc (qPq _) _
 have b2:yI (B+1) O P:=by rw[<-b,<-Z];exact(yN _ _).alloc (qPq _) _
 have V:yI (B+2) P q:=by rw[<-d,<-z2];exact(yN _ _).alloc (qPq _) _
 have new:∀(W:qy) (o:Obj),(W.alloc o).heap[W.heap.size]? =qw o:=fun W o=>by show(W.heap.push o)[W.heap.size]? =_;simp
 have c1:q.heap[B]? =qw (qm #[qW ⟨#[]⟩,qV .u32 0,qV qj 0,qV qj 0] zEf):=by
  rw[V.block B za,b2.block B za,<-c,<-X];exact new _ _
 have c2:q.heap[B+1]? =qw (qm #[qV qj 0] 26):=by
  rw[V.block (B+1) za,<-b,<-Z];exact new _ _
 have c3:RD q (B+2) ⟨a,i,qx,0,0,qx,0,0,0⟩:=by
  unfold RD;rw[<-d,<-z2];exact new _ _
 have l:yI B w q:=(b1.trans (b2.mono za)).trans (V.mono za);have z3:q.heap.size=B+3:=by rw[<-d,zA,z2]
 obtain⟨N,m,r⟩:=yR (fun(w:qy)=>zC9 y a1 a2 w) (zY7 (B+2) i y a s x q c3 hs Y h0 a1 a2 hl ha) (fun(W:qy)=>show yC yG 25 #[qW s] W fun e w'=>e=qp (qV .u32 (zBa x:Int))/\yI W.heap.size W w' from by
  have hb:=(Rle.zBu x).2;have a5:s.size=kG x:=by rw[<-Y];simp
  have h:=Crc.zG7 s (by unfold maxLen;omega) W;rw[Y,show xD (yu x)=(zBa x:Int)by unfold xD zBa;rfl]at h;exact h)
 obtain⟨HM,HB,C1,C2,R⟩:=yT (fun(e:Int) (w:qy)=>zJv e w) l c1 c2 z3;obtain⟨sm,k⟩:=zB (zBa x);obtain⟨n,hn⟩:=zB (kG (zAn x));rw[k]at r;rw[k,hn]at m;rw[k,hn];have a3:¬(i:Int)<0:=za
 obtain⟨H,G,t⟩:=yR c b d;clear b1 b2 V c1 c2 c3 l new Y ha h0 hl k hn z3 c b d Z z2;go_enter_defers func247,ntmps247;go_wp2_with fail;(with_reducible refine(N.out _).mono ?_);rintro e w1 ⟨rfl,I⟩;subst I;go_wp2_with fail;rw[show B+1+1=B+2 from rfl];rw[show((w.alloc (qm #[qW ⟨#[]⟩,qV .u32 0,qV qj 0,qV qj 0] zEf)).alloc (qm #[qV qj 0] 26)).alloc (qm #[qW a,qV qj (i:Int),qX qx 0 0,qX qx 0 0,qV qj 0] TRd)=q by rw[H.out,G.out,t.out]];(with_reducible refine m.out.mono ?_);rintro e w4 ⟨rfl,⟨tp,tc,cq,KG,cc,hk⟩,L⟩;obtain⟨K4,B4,D1,D2⟩:=yS hk (HB.out.trans (L.below.mono (show B<=B+2 by omega))) ((L.old B (by rw[R.out];omega) za).trans C1.out) ((L.old (B+1) (by rw[R.out];omega) za).trans C2.out);have S:=yP (B+3<=w4.heap.size) (by have:=L.size;rw[R.out]at this;exact this);clear hk L m H G t HB C1 C2 R;go_wp2_with fail;(with_reducible refine(r.out _).mono ?_);rintro e w5 ⟨rfl,g⟩;have B5:=zH (B4.out.trans (g.mono (by have:=S.out;omega)));have K5:=K4.out.below g;have d1:=(g.block B (by have:=S.out;omega)).trans D1.out;have d2:=(g.block (B+1) (by have:=S.out;omega)).trans D2.out;have x1:=K5.c1;simp only at x1;obtain⟨⟨y0,y1,y2,y3⟩,g0,g1,g2,g3⟩:=zDf d1;have u0:w5.cell? ⟨B+1,0,qx⟩=qw (qV qj 0):=by simp[yM,d2]
 have v0:w5.frozen? ⟨B+1,0,qx⟩=yE:=by simp[World.frozen?,d2]
 clear g K4 K5 D1 D2 d2 B4 S N;go_wp2_with fail;(with_reducible refine(HM.out _ _).mono ?_);rintro e w6 ⟨rfl,rfl⟩;obtain⟨M,j⟩:=zB ((((w6.setCell ⟨B,0,qx⟩ (qW s)).setCell ⟨B,1,qx⟩ (qV .u32 (sm:Int))).setCell ⟨B,2,qx⟩ (qV qj (i:Int))).setCell ⟨B,3,qx⟩ (qV qj ((i:Int)+(n:Int))));have z:M.heap[B]? =qw (qm #[qW s,qV .u32 (sm:Int),qV qj (i:Int),qV qj ((i:Int)+(n:Int))] zEf):=by
  rw[<-j];exact zA3 3 _ (zA3 2 _ (zA3 1 _ (zA3 0 _ d1)))
 obtain⟨F,hF⟩:=zB (M.setCell ⟨B+1,0,qx⟩ (qV qj 0));have e2:F.heap[B]? =qw (qm #[qW s,qV .u32 (sm:Int),qV qj (i:Int),qV qj ((i:Int)+(n:Int))] zEf):=by
  rw[<-hF];exact qF8 za z
 have u1:M.cell? ⟨B+1,0,qx⟩=qw (qV qj 0):=by
  rw[<-j,qQe _ _ _ _ (by intro e;injection e with z _ _;omega),qQe _ _ _ _ (by intro e;injection e with z _ _;omega),qQe _ _ _ _ (by intro e;injection e with z _ _;omega),qQe _ _ _ _ (by intro e;injection e with z _ _;omega)];exact u0
 have v1:M.frozen? ⟨B+1,0,qx⟩=yE:=by
  rw[<-j,qSx,qSx,qSx,qSx];exact v0
 have r4:F.cell? ⟨B+1,0,qx⟩=qw (qV qj 0):=by
  rw[<-hF];exact qRi _ _ _ (u:=qV qj 0) u1
 have N:=yP (yI B w F) (by rw[<-hF,<-j];exact((((B5.out.setCell (p:=⟨B,0,qx⟩) (qPq _) _).setCell (p:=⟨B,1,qx⟩) (qPq _) _).setCell (p:=⟨B,2,qx⟩) (qPq _) _).setCell (p:=⟨B,3,qx⟩) (qPq _) _).setCell (p:=⟨B+1,0,qx⟩) (qRu _) _)
 obtain⟨⟨r0,r1,r2,r3⟩,_⟩:=zDf e2;clear z e2 d1;go_wp2;refine leaves_cons (f:=284) (args:= #[qY (qw ⟨B,0,qx⟩),qY (qw ⟨B+1,0,qx⟩)]) zm (by simp[go_sem]) ?_;refine(qB ⟨B,0,qx⟩ ⟨B+1,0,qx⟩ F).mono ?_;rintro e u' a6 ⟨rfl,rfl,rfl⟩;simp[Leaves,settle,results,results247,go_sem,r0,r1,r2,r3,r4];rw[K.out];exact⟨rfl,N.out⟩
end Bk
namespace Sm
open Bt Zr Front Sq St Tn Bk Rg
abbrev zCf:yA:=65
theorem qEn:Kit.One yG 224 zCf 4:=⟨underlying224,⟨qV .u32 0,zf,rfl⟩⟩
structure RP (D:Nat) (A B:qy):Prop where
 os:B.os=A.os
 tape:B.tape=A.tape
 output:B.output=A.output
 size:A.heap.size<=B.heap.size
 old:∀(k:Nat) (o:Obj),A.heap[k]? =qw o->(k<D\/((∀cs f,o≠qm cs TSr f)/\(∀cs f,o≠qm cs zCf f)))->B.heap[k]? =qw o
theorem RP.refl (D:Nat) (A:qy):RP D A A:=⟨rfl,rfl,rfl,qPq _,fun _ _ h _=>h⟩
theorem RP.trans {D:Nat} {A B C:qy} (h:RP D A B) (g:RP D B C):RP D A C:=⟨g.os.trans h.os,g.tape.trans h.tape,g.output.trans h.output,qP4 h.size g.size,fun k o b a=>g.old k o (h.old k o b a) a⟩
theorem RP.below {A B:qy} {D E:Nat} (h:yI E A B) (b:E=A.heap.size):RP D A B:=⟨h.os,h.tape,h.output,h.size,fun k o a _=>(h.block k (by rw[b];exact zAd a)).trans a⟩
theorem RP.set {D:Nat} {A:qy} {K i n c j:Nat} {a:ByteArray} {p:Option yB} (h:SR A K a i p n c) (f:D<=K) (v:qz):RP D A (A.setCell ⟨K,j,qx⟩ v):=
 ⟨rfl,rfl,rfl,zm,fun k o b d=>(zAa (fun e=>by
  subst e;rw[show A.heap[k]? =_ from h]at b;injection b with b
  rcases d with d|d
  ·omega
  ·exact d.1 _ _ b.symm)).trans b⟩
theorem RP.keeps {D:Nat} {A B:qy} (h:RP D A B):KeepsOthers A B:=⟨h.size,fun k o c a=>h.old k o c (.inr ⟨(fun b f e=>by rw[e]at a;cases a),(fun b f e=>by rw[e]at a;cases a)⟩)⟩
theorem RP.from {D E:Nat} {w A B:qy} (h:RP D A B) (b:yI E w A) (c:E<=D) (e:D<=A.heap.size):yI E w B:=
 b.trans ⟨h.os,h.tape,h.output,h.size,fun k d=>by
  have a:A.heap[k]? =qw A.heap[k]:=qT2 za;rw[a];exact h.old k _ a (.inl za)⟩
structure SS (w:qy) (K:Nat) (a:ByteArray) (i:Nat) (p:Option yB) (n c:Nat) (l:List (BitVec 32)):Prop where
 rd:SR w K a i p n c
 own:yg w (K+1) zCf p n c (l.map zAx)
section
variable {w w':qy} {K i n c:Nat} {a:ByteArray} {p:Option yB} {l:List (BitVec 32)}
theorem SS.lt (h:SS w K a i p n c l):K<w.heap.size:=h.rd.lt
theorem SS.below (h:SS w K a i p n c l) (b:yI w.heap.size w w'):SS w' K a i p n c l:=⟨h.rd.below b,h.own.below b (qPq _)⟩
theorem SS.s1 (h:SS w K a i p n c l) (j:Nat) {V:Int} (b:V=(j:Int)):SS (w.setCell ⟨K,1,qx⟩ (qV qj V)) K a j p n c l:=⟨h.rd.s1 j b,zCz h.own (qQ6 K) _⟩
theorem SS.alloc (h:SS w K a i p n c l) (o:Obj):SS (w.alloc o) K a i p n c l:=h.below ((yN _ _).alloc (qPq _) _)
theorem SS.drew (h:SS w K a i p n c l):SS w.drew K a i p n c l:=⟨h.rd,h.own⟩
theorem SS.sc {C:Nat->yA->Prop} (h:SS w K a i p n c l) (j:Sc C w w') (m:∀k,¬C k TSr) (o:∀k,¬C k zCf):SS w' K a i p n c l:=by
 refine⟨j.2 _ _ _ _ h.rd (m _),?_⟩;obtain⟨q,f⟩:=h.own;refine⟨q,?_⟩;rcases f with f|⟨g,e,b,hv,d,s,r⟩
 ·exact .inl f
 ·exact .inr ⟨g,e,b,hv,d,j.2 _ _ _ _ s (o _),r⟩
theorem SS.push {D:Nat} (h:SS w K a i p n c l) (G:D<=K) (x:BitVec 32) (O:n<=100000):
  ∃s c1 t w2,(loadVar 224 ⟨K,2,qx⟩).run yG w= .ok (qX p n c) w/\
   (loadVar 224 ⟨K,2,qx⟩).run yG (w.alloc (qm #[zAx x] zCf))= .ok (qX p n c) (w.alloc (qm #[zAx x] zCf))/\
   (Builtin.append_ #[224,224] 224 #[qX p n c,qX (qw ⟨w.heap.size,0,qx⟩) 1 1]).run yG (w.alloc (qm #[zAx x] zCf))= .ok (qX s (n+1) c1) t/\
   (storeVar 224 ⟨K,2,qx⟩ (qX s (n+1) c1)).run yG t= .ok () w2/\SS w2 K a i s (n+1) c1 (l++[x])/\RP D w w2:=by
 have b:=h.alloc (qm #[zAx x] zCf);obtain⟨s,c1,t,I,B,z⟩:=Kit.Own.app (ty:=224) qEn b.own (qw ⟨w.heap.size,0,qx⟩) 1 1 [zAx x] (Kit.zAs w (zAx x) zCf) rfl (fun h=>by cases h) (zPv [x]) (by unfold maxLen;omega) za (by have:=b.lt;omega);rw[show l.map zAx++[zAx x]=(l++[x]).map zAx by rw[qQd];rfl]at B;have f:=b.own.block;have H:yI (K+1) (w.alloc (qm #[zAx x] zCf)) t:=Kit.zAq z (by have:=b.lt;omega) (fun k r=>f k r);have y:SR t K a i p n c:=b.rd.keep (H.block K (qQ6 K));refine⟨s,c1,t,_,yh h.rd.c2 zf zf,yh b.rd.c2 zf zf,I,Kit.zDs y.c2 (y.fr 2) zf rfl rfl,⟨y.s2 s (n+1) c1,zCz B (qQ6 K) _⟩,?_⟩;refine(RP.below ((yN _ w).alloc (qPq _) (qm #[zAx x] zCf)) rfl).trans (RP.trans ?_ (RP.set y G _));obtain⟨g1,g2,g3,m,d⟩:=z;refine⟨g1,g2,g3,m,fun k o r u=>(d k (zAd r) (fun e=> ?_)).trans r⟩;cases p with
 |none=>cases e
 |some q=>
  rcases b.own.2 with⟨F,_⟩|⟨g,L,M,hv,N,j,_⟩
  ·cases F
  ·injection hv with hv _ _
   injection hv with hv
   subst hv;injection e with e
   subst e;rw[j]at r;injection r with r
   rcases u with u|u
   ·omega
   ·exact u.2 _ _ r.symm
end
theorem qE3 {w:qy} {B:Nat} {u v x y u' v' x' y':qz} (h:w.heap[B]? =qw (qm #[u,v,x,y] zEf)) (i:∀z∈[u',v',x',y'],z.oneCell'=yD):
  ∃w',(storeVar zEf ⟨B,0,qx⟩ (.agg #[u',v',x',y'])).run yG w= .ok () w'/\w'.heap[B]? =qw (qm #[u',v',x',y'] zEf)/\(∀k,k≠B->w'.heap[k]? =w.heap[k]?)/\(∀D,D<=B->yI D w w'):=by
 obtain⟨⟨c0,c1,c2,c3⟩,d,e,f,g⟩:=zDf h;have a:=qSm (P:=yG) w B 0 zEf #[u',v',x',y'] (fun j l=>by
  have m:j<4:=l;obtain rfl|rfl|rfl|rfl:j=0\/j=1\/j=2\/j=3:=za
  ·exact⟨by rw[show 0+0=0 from rfl,c0];rfl,d⟩
  ·exact⟨by rw[show 0+1=1 from rfl,c1];rfl,e⟩
  ·exact⟨by rw[show 0+2=2 from rfl,c2];rfl,f⟩
  ·exact⟨by rw[show 0+3=3 from rfl,c3];rfl,g⟩) zf (by simpa using i)
 refine⟨_,a,?_,?_,?_⟩
 ·exact zA3 3 _ (zA3 2 _ (zA3 1 _ (zA3 0 _ h)))
 ·exact fun k c=>(zAa c).trans ((zAa c).trans ((zAa c).trans (zAa c)))
 ·exact fun D b=>((((yN _ w).setCell (p:=⟨B,0,qx⟩) b _).setCell (p:=⟨B,1,qx⟩) b _).setCell (p:=⟨B,2,qx⟩) b _).setCell (p:=⟨B,3,qx⟩) b _
def PV (b:Nat) (a:List T) (k:Nat):qz:= .agg #[qW (yw (a.getD k [])),zAx (yu (a.getD k [])),qV qj (pos a k:Int),qV qj (pos a (k+1):Int),qV qj ((40*b:Nat):Int)]
def EP (a:Nat) (b:List T) (k:Nat) (_:qy) (c:Array qz):Prop:=c= #[PV a b k,qV qj 0]
structure Arc (lev:Nat) (ps:List T) (a:ByteArray) (n:Nat):Prop where
 len:kG ps=n
 lo:1<=lev
 hi:lev<=9
 size:a.size<=100000000
 many:n<=10000
 head:Hd a lev
 each:∀p∈ps,0<kG p/\xW p<=40*lev
 blk:∀k,k<n->At a (pos ps k) (zAn (ps.getD k []))
 fin:At a (pos ps n) (zF ps)
 rest:∃r,(8-(pos ps n+80)%8)%8=r/\pos ps n+80+r=8*a.size/\val (take a (pos ps n+80) r)=0
theorem Arc.mem {c n:Nat} {b:List T} {a:ByteArray} (h:Arc c b a n) {k:Nat} (e:k<n):0<kG (b.getD k [])/\xW (b.getD k [])<=40*c:=by
 have d:k<kG b:=by rw[h.len];exact e
 rw[qPw,qPu d];exact h.each _ (qQ d)
theorem Arc.next {d n:Nat} {b:List T} {a:ByteArray} (h:Arc d b a n) {k:Nat} (e:k<n):pos b k+kG (zAn (b.getD k []))=pos b (k+1):=by
 have c:k<kG b:=by rw[h.len];exact e
 rw[zZv b k c,qPw,qPu c];rfl
theorem qGl (a:Nat) (b:List T) (d:1<=a) (e:a<=9) (h:(zCt a b).size<=100000000) (g:kG b<=10000) (f:∀p∈b,0<kG p/\xW p<=40*a):Arc a b (zCt a b) (kG b):=by
 refine⟨rfl,d,e,h,g,fun k c=>qBm a za b k c,f,fun k c=> ?_,qEd a b,⟨_,rfl,?_,?_⟩⟩
 ·rw[qPw,qPu c];exact qGm a b k c
 ·rw[zLr];omega
 ·refine qBl a b _ ?_;rw[zLr];omega
end Sm
namespace Sm
open Hf Bt Zr Front Ch Sq St Tn Bk Rg
variable {w:qy} {K i n c:Nat} {a:ByteArray} {p:Option yB}
theorem SR.l0 (h:SR w K a i p n c):(loadVar 9 ⟨K,0,qx⟩).run yG w= .ok (qW a) w:=yh h.c0 zf zf
theorem SR.l1 (h:SR w K a i p n c):(loadVar 3 ⟨K,1,qx⟩).run yG w= .ok (qV qj (i:Int)) w:=yh h.c1 zf zf
theorem zW1 {pre:List Nat} {k:Nat} (b:k<n):yK k++[k]<+:yK n:=by
 rw[<-qQu];exact List.prefix_iff_eq_take.2 (by rw[qQ8,List.take_range];congr 1;omega)
theorem RP.upd {D:Nat} {w':qy} (h:Upd w w' K) (g:D<=K) (f:SR w K a i p n c):RP D w w':=
 ⟨h.below.os,h.below.tape,h.below.output,h.size,fun k o b d=>(h.old k (zAd b) (fun e=>by
  subst e;rw[show w.heap[k]? =_ from f]at b;injection b with b
  rcases d with d|d
  ·omega
  ·exact d.1 _ _ b.symm)).trans b⟩
def zVp (K:Nat) (w:qy):Nat:=match w.cell? ⟨K,1,qx⟩with
 |some (qV qj i)=>i.toNat
 |_=>0
theorem zJ7 (h:SR w K a i p n c):zVp K w=i:=by
 unfold zVp;rw[h.c1];rfl
theorem zUl (D K l b1 n:Nat) (b0:D<=K) (ps:List T) (a:ByteArray) (A:Arc b1 ps a n) (C:Nat->yA->Prop) (b2:∀k,¬C k TSr) (b3:∀k,¬C k zCf) (J Jx:List Nat->qy->Prop) (hJ:∀pre A B,J pre A->RP D A B->J pre B)
  (hY:∀pre x W1 vs,J pre W1->EP b1 ps x W1 vs->pre++[x]<+:yK n->YieldAt Fence.wide 1 yG l vs W1 fun e W'=>(e=qp (qc yD)/\J (pre++[x]) W'/\Sc C W1 W')\/(e=qp (qc yE)/\Jx (pre++[x]) W'))
  (w:qy) (h:SR w K a 0 qx 0 0) (h0:J [] w):
  CallsIn Fence.wide 2 yG 189 #[qY (qw ⟨K,0,qx⟩),.func (.yield l) #[] #[]] w fun e w'=>
   (e=qp (qc yD)/\J (yK n) w'/\∃p c,SR w' K a (8*a.size) p n c)\/(e=qp (qc yE)/\∃pre,pre<+:yK n/\Jx pre w'):=by
 obtain⟨HJ,HY,z,Y⟩:=yS hJ hY A (zZm a b1 A.size A.lo A.hi A.head w.drew);have K0:=yP (SR w.drew K a 0 qx 0 0) h;have J0:=zH (hJ _ _ _ h0 (RP.below (B:=w.drew) ((yN w.heap.size w).drew) rfl));obtain⟨m,hm⟩:=zB (40*b1);have av:m<=360:=by have:=A.hi;omega
 rw[hm]at Y;have HM:=zH hm;clear hJ hY A h h0 hm;refine qS6 func189 rfl trivial ?_ rfl;simp only[ntmps189,qQ0,qP3,qQx,Nat.reduceAdd,Nat.reduceSub,qQ9,qR,qRa,qRb,qQl,qQr];gi_wp2;refine Kit.zIq zf [] (fun _=>True) [0,1,2,4,0,16,32,64,128,264,512,1024,1024,4095,16383] 15 zf zf zf zf zf ?_;refine zp [0,1,2,3,4,5,6,7,8]<|zk 10 (zP K 0)<|zk 11 (zP K 0)<|zk 12 (zP K 0)<|zt 13 (qW a) (zl 9 12 (K0.out.l0))<|zk 14 (zP K 0)<|zk 15 (zP K 0)<|zk 16 (zP K 1)<|zt 17 (qV qj 0) (zl 3 16 (K0.out.l1))<|zk 18 (qV qj 0)<|zn<|zd 9 19 245 #[qW a,qV qj 0] (qZ #[qV qj (m:Int),qV qj 0]) Y.out<|zp [10,11,12,13,14]<|zk 9 (qZ #[qV qj (m:Int),qV qj 0])<|zk 20 (zI m)<|zk 21 (qV qj 0)<|zk 5 (zI m)<|zk 6 (qV qj 0)<|zn<| ?_
 refine Kit.zRh zf ?_;simp only[zP,zI,Act.put,qPz,qPy,qP0];clear Y;generalize w.drew=w1 at K0 J0⊢;have c1:=K0.out.c1;have c2:=K0.out.c2;have f1:=K0.out.fr 1;have f2:=K0.out.fr 2;have y:=SR.s1 K0.out 32 (V:=32) rfl;obtain⟨S2,J2⟩:=yQ (SS.mk (l:=[]) (SR.s2 y qx 0 0) (Kit.Own.start _ _ _)) (HJ.out _ _ _ (HJ.out _ _ _ J0.out (RP.set K0.out b0 (j:=1) (qV qj 32))) (RP.set y b0 (j:=2) (qX qx 0 0)));clear y J0 K0;rw[show((0:Nat):Int)=0 from rfl]at c1;gi_wp2;clear c1 c2 f1 f2;gi_loopw [6] (fun ev wr=>∃(k c:Nat) (p:Option yB),k<=n/\ev=qV qj 0/\yH (SS wr K a (pos ps k) p k c ((ps.take k).map yu))/\yH (J (yK k) wr)) (fun _ wr=>8*a.size+1-zVp K wr)
 case atStart=>exact⟨0,0,qx,qQq _,rfl,by rw[zZu];exact S2,J2⟩
 case round=>
  clear S2 J2;obtain⟨k,c,p,hk,rfl,a7,hj⟩:=hrel;obtain⟨J1,y⟩:=yQ (HJ.out _ _ _ hj.out (RP.below (B:=wr.drew) ((yN wr.heap.size wr).drew) rfl)) a7.out.drew;have K1:=zH y.out.rd;obtain⟨i,hi⟩:=zB (pos ps k);have L:=zJ7 a7.out.rd;rw[hi]at y K1 L;have HI:=zH (yO hi L);clear a7 hj L;by_cases s:k<n
  ·obtain⟨x,hx⟩:=zB (ps.getD k []);have u:=z.out.blk k s;have F:=z.out.mem s;have I:=z.out.next s
   rw[hi,hx]at u I;rw[hx,HM.out]at F;obtain⟨i2,X⟩:=zB (pos ps (k+1));rw[X]at I;have d:At a i (num zA4 48):=Bk.At.left (by rw[zE6]at u;exact u);have hb:=Bk.At.bound u;have o:=Bk.At.bound d;rw[zAc]at o;have hs:=z.out.size;have HG:=zH ((zB7 a i 48 za o za wr.drew).mono (fun _ _ h=>(⟨h.1,h.2.symm⟩:_/\_)));rw[At.val d z8,show((zA4:Nat):Int)=54156738319193 from rfl,show((48:Nat):Int)=48 from rfl]at HG;have ah:(zBa x:Int)=xD (yu x):=by unfold xD zBa;rfl
   have O:=zH (fun W=>zFi i m a (yw x) x W hs (Rle.zBk x) F.1 (by have:=HM.out;have:=z.out.lo;omega) av F.2 u);unfold qGe at O;rw[I,ah]at O;have HX:=zH (yO hx (yO X (yO I hb)));have aq:48<=kG (zAn x):=by rw[zE6,qPx,zAc];omega
   have az:=yP (i<i2) (by omega);clear hi hx u F I X d hb o hs ah aq;gi_wp2;refine Kit.zIq zf [] (fun _=>True) [0,1,2,4,0,16,32,64,136,256,512,512,2047,8191] 14 zf zf zf zf zf ?_;refine zp [0,1,2,3,4,5,6,7]<|zk 35 (zP K 0)<|zk 36 (zP K 0)<|zk 37 (zP K 0)<|zt 38 (qW a) (zl 9 37 (K1.out.l0))<|zk 39 (zP K 0)<|zk 40 (zP K 0)<|zk 41 (zP K 1)<|zt 42 (zI i) (zl 3 41 (K1.out.l1))<|zn<|zd 8 43 32 #[qW a,qV qj (i:Int),qV qj 48] (qZ #[qV .u64 54156738319193,qV qj 0]) HG.out<|zp [9,10,11,12,13]<|zk 34 (qZ #[qV .u64 54156738319193,qV qj 0])<|zk 44 (qV .u64 54156738319193)<|zk 45 (qV qj 0)<|zk 7 (qV .u64 54156738319193)<|zk 6 (qV qj 0)<|zn<| ?_
   refine Kit.zRh zf ?_;simp only[zP,zI,Act.put,qPz,qPy,qP0];clear HG K1;generalize wr.drew=w2 at y J1⊢;obtain⟨b,H⟩:=zB w2.heap.size;obtain⟨W,hW⟩:=zB (w2.alloc (qm #[qW ⟨#[]⟩,qV .u32 0,qV qj 0,qV qj 0] zEf));have ar:K<b:=by rw[<-H];exact y.out.lt
   have S2:=yP (SS W.drew K a i p k c ((ps.take k).map yu)) (by rw[<-hW];exact(y.out.alloc _).drew);have K2:=zH S2.out.rd;have HZ:=yP (W.drew.heap[b]? =qw (qm #[qW ⟨#[]⟩,qV .u32 0,qV qj 0,qV qj 0] zEf)) (by rw[<-hW,<-H];exact zAh w2 _);have B2:=yP (yI b w2 W.drew) (by rw[<-hW,<-H];exact((yN _ _).alloc (qPq _) _).drew);obtain⟨HW,a9⟩:=yQ hW H;clear y hW H;gi_wp2;rw[a9.out,show w2.alloc (qm #[qW ⟨#[]⟩,qV .u32 0,qV qj 0,qV qj 0] zEf)=W from HW.out];refine Kit.zIq zf [] (fun _=>True) [0,1,2,4,0,16,32,64,0,392,512,1024,1024,4095,16383] 15 zf zf zf zf zf ?_;refine zp [0,1,2,3,4,5,6,7,8]<|zk 66 (zP K 0)<|zk 67 (zP K 0)<|zk 68 (zP K 0)<|zt 69 (qW a) (zl 9 68 (K2.out.l0))<|zk 70 (zP K 0)<|zk 71 (zP K 0)<|zk 72 (zP K 1)<|zt 73 (zI i) (zl 3 72 (K2.out.l1))<|zk 74 (zI m)<|zn<|zx 9 75 247 #[qW a,qV qj (i:Int),qV qj (m:Int)] (O.out _)<| ?_
   rintro e w5 ⟨rfl,P⟩;have S:=(P.block b (zAd HZ.out)).trans HZ.out;obtain⟨w6,Z,a3,aj,M⟩:=qE3 (u':=qW (yw x)) (v':=qV .u32 (xD (yu x))) (x':=qV qj (i:Int)) (y':=qV qj (i2:Int)) S (by simp[Value.oneCell']);refine⟨_,rfl,.inr (.inr trivial),?_⟩;refine zp [10]<|zk 65 (qZ #[.agg #[qW (yw x),qV .u32 (xD (yu x)),qV qj (i:Int),qV qj (i2:Int)],qV qj 0])<|zn<|zu 12 77 (qV qj 0)<|zp [11]<|zk 76 (.agg #[qW (yw x),qV .u32 (xD (yu x)),qV qj (i:Int),qV qj (i2:Int)])<|zn<|zw 13 qx (zr 105 8 76 (Z)) (.inr (.inr trivial))<|zp [14]<|zk 6 (qV qj 0)<|zn<| ?_
   refine Kit.zRh zf ?_;simp only[zP,zI,Act.put,qPz,qPy,qP0];have a2:b<W.drew.heap.size:=zAd HZ.out;have S5:=S2.out.below P;have S6:SS w6 K a i p k c ((ps.take k).map yu):=S5.sc (C:=fun q t=>q=b/\t=zEf) ⟨(M b (qPq _)).size,fun q cs t f hq hc=>(aj q (fun e=>hc ⟨e,by subst e;rw[S]at hq;injection hq with hq;injection hq with _ hq _;exact hq.symm⟩)).trans hq⟩ (fun q h=>absurd h.2 z8) (fun q h=>absurd h.2 z8);have J6:=HJ.out _ _ _ J1.out (RP.below ((B2.out.trans (P.mono (qP6 a2))).trans (M b (qPq _))) a9.out.symm);have c1:=S6.rd.c1;have f1:=S6.rd.fr 1;obtain⟨S7,J7⟩:=yQ (S6.s1 i2 (V:=(i2:Int)) rfl) (HJ.out _ _ _ J6 (RP.set S6.rd b0 (j:=1) (qV qj (i2:Int))));have z7:(w6.setCell ⟨K,1,qx⟩ (qV qj (i2:Int))).heap[b]? =qw (qm #[qW (yw x),qV .u32 (xD (yu x)),qV qj (i:Int),qV qj (i2:Int)] zEf):=(zAa (Nat.ne_of_gt ar)).trans a3;obtain⟨⟨_,_,_,e3⟩,_⟩:=zDf a3;obtain⟨w7,an⟩:=zB (w6.setCell ⟨K,1,qx⟩ (qV qj (i2:Int)));rw[an]at S7 J7 z7;have Z7:=zH z7;clear P Z a3 aj M S S5 S6 J6 O K2 S2 HZ B2 HW a9 J1 a2 z7;gi_wp2;have ab:k<=100000:=by have:=z.out.many;omega
   obtain⟨p1,d1,w8,w9,l2,ao,ag,a4,S9,a8⟩:=S7.out.drew.push (D:=D) b0 (yu x) ab;have LB:=yP ((loadVar 65 ⟨b,1,qx⟩).run yG w7.drew= .ok (zAx (yu x)) w7.drew) (yh (by simp[yM,show w7.drew.heap[b]? =_ from Z7.out];rfl) zf zf);obtain⟨L2,ad,ap,a5⟩:=yS l2 ao ag a4;have z9:=a8.old b _ (show w7.drew.heap[b]? =_ from Z7.out) (.inr ⟨(fun cs f e=>by injection e with _ e _;exact absurd e z8),(fun cs f e=>by injection e with _ e _;exact absurd e z8)⟩);have J9:=HJ.out _ _ _ J7.out ((RP.below (B:=w7.drew) ((yN w7.heap.size w7).drew) rfl).trans a8);have a1:=zH S9;clear c1 f1 e3 an l2 ao ag a4 S9 a8 S7 J7 Z7;refine Kit.zIq zf [8,11] (fun W'=>(loadVar 224 ⟨K,2,qx⟩).run yG W'= .ok (qX p k c) W') [0,0,2,4,8,0,32,64,144,511,1023,1535] 12 zf zf zf zf zf ?_;refine zu 0 85 (zP K 0)<|zu 1 86 (zP K 0)<|zu 2 87 (zP K 0)<|zu 3 88 (zP K 2)<|zy 4 89 (qX p k c) (fun w hS=>zl 224 88 (hS)) L2.out<|zp [5,6]<|zk 90 (zP b 1)<|zt 91 (zAx (yu x)) (zl 65 90 (LB.out))<|zn<| ?_
   refine Kit.zLe (w':=w7.drew.alloc (qm #[zAx (yu x)] zCf)) 7 (qw 92) (qX (qw ⟨w7.drew.heap.size,0,qx⟩) 1 1) 255 zf zf rfl rfl zf zf (.inr (.inr (ad.out))) ?_;refine zo 8 93 (qX p1 (k+1) d1) (Kit.zHb (.tmp 89) (.tmp 92) 224 rfl zf zf ap.out) (.inr (.inl zf))<|zp [9,10]<|zk 94 (zP K 0)<|zk 95 (zP K 2)<|zn<|zw 11 qx (zr 224 95 93 (a5.out)) (.inr (.inl zf))<| ?_
   refine Kit.zRh zf ?_;simp only[zP,zI,Act.put,qPz,qPy,qP0];obtain⟨⟨y0,y1,y2,y3⟩,_⟩:=zDf z9;have ae:=zW1 (pre:=[]) s;obtain⟨fn,tmps,assign,body,hy,hR⟩:=HY.out (yK k) k w9 #[.agg #[qW (yw x),qV .u32 (xD (yu x)),qV qj (i:Int),qV qj (i2:Int),qV qj (m:Int)],qV qj 0] J9
    (by unfold EP PV zAx;rw[HX.out.1,HI.out.1,HX.out.2.1,HM.out]) ae
   have HR:=zH hR;clear z9 J9 hR L2 ad ap a5 LB;gi_wp2;refine HR.out.mono ?_;rintro e W3 (⟨rfl,am,ac⟩|⟨rfl,aa⟩)
   ·obtain⟨ai,ay⟩:=yQ (a1.out.sc ac b2 b3) am;clear am ac hy y0 y1 y2 y3 a1;gi_wp2;go_roundw
    case rel=>
     refine⟨k+1,d1,p1,s,rfl,?_,?_⟩
     ·rw[HX.out.2.1];have ak:k<kG ps:=by rw[z.out.len];exact s
      have au:ps[k]=x:=by
       have:=HX.out.1;rw[qPw,qPu ak]at this;exact this
      rw[qQo ak,qQd,au];exact ai
     ·rw[qQu];exact ay
    case measure=>
     rw[zJ7 ai.out.rd,HI.out.2];have:=HX.out.2.2.2;have:=HX.out.2.2.1;have:=az.out;omega
   ·have ax:=zH aa;clear aa hy y0 y1 y2 y3 a1;gi_wp2;go_ret;exact .inr ⟨rfl,_,ae,ax.out⟩
  ·obtain rfl:k=n:=za
   have G:=z.out.fin;obtain⟨r,a0,R,hz⟩:=z.out.rest;rw[hi]at G a0 R hz;have d:At a i (num zH0 48):=Bk.At.left G;have o:=Bk.At.bound d;rw[zAc]at o;have hs:=z.out.size;have HG:=zH ((zB7 a i 48 za o za wr.drew).mono (fun _ _ h=>(⟨h.1,h.2.symm⟩:_/\_)));rw[At.val d z8,show((zH0:Nat):Int)=25779555029136 from rfl,show((48:Nat):Int)=48 from rfl]at HG;have N:=y.out.own.src;rw[qQg (by rw[z.out.len];exact qPq _)]at N;have hne:∀q,p=qw q->q.block≠K:=by
    rintro q rfl;rcases y.out.own.2 with⟨e1,_⟩|⟨g,b4,b5,hv,hg,_⟩
    ·cases e1
    ·injection hv with hv _ _
     injection hv with hv
     subst hv;show g≠K;omega
   obtain⟨a6,S2⟩:=yQ (zFr K i k c r a p ps wr.drew y.out.rd hs z.out.len (by have:=z.out.many;omega) N hne G a0 R hz) y.out;clear G a0 R hz d o hs N hne hi;gi_wp2;refine Kit.zIq zf [] (fun _=>True) [0,1,2,4,0,16,32,64,136,256,512,512,2047,8191] 14 zf zf zf zf zf ?_;refine zp [0,1,2,3,4,5,6,7]<|zk 35 (zP K 0)<|zk 36 (zP K 0)<|zk 37 (zP K 0)<|zt 38 (qW a) (zl 9 37 (K1.out.l0))<|zk 39 (zP K 0)<|zk 40 (zP K 0)<|zk 41 (zP K 1)<|zt 42 (zI i) (zl 3 41 (K1.out.l1))<|zn<|zd 8 43 32 #[qW a,qV qj (i:Int),qV qj 48] (qZ #[qV .u64 25779555029136,qV qj 0]) HG.out<|zp [9,10,11,12,13]<|zk 34 (qZ #[qV .u64 25779555029136,qV qj 0])<|zk 44 (qV .u64 25779555029136)<|zk 45 (qV qj 0)<|zk 7 (qV .u64 25779555029136)<|zk 6 (qV qj 0)<|zn<| ?_
   refine Kit.zRh zf ?_;simp only[zP,zI,Act.put,qPz,qPy,qP0];clear HG K1 y;generalize wr.drew=w2 at S2 J1 a6⊢;gi_wp2_with fail;refine⟨trivial,(qQj.2 a6.out).mono ?_⟩;rintro e w3 ⟨rfl,af,hu⟩;obtain⟨J3,S3⟩:=yQ (HJ.out _ _ _ J1.out (RP.upd hu b0 S2.out.rd)) af;clear af hu a6 S2 J1;gi_wp2;refine⟨(fun f hf=>by cases hf),?_⟩
   apply_assumption
   gi_wp2;go_ret;exact .inl ⟨rfl,J3.out,_,_,S3.out⟩
end Sm
end Go.Proofs.YtppnakkaljbmbaaGreatDoor
