/- Steps of a proof; no condition beyond what each states. -/
import Derived.Test.YtppnakkaljbmbaaGreatDoorZX00
import Derived.Shelf.Small.Strs
import Derived.Shelf.Strconv.Atoi
import Derived.Shelf.Strconv.Itoa3
import Derived.Shelf.Strings.OnBuilder
import Derived.Shelf.Strings.Split
import Derived.Test.YtppnakkaljbmbaaGreatDoorZX19
set_option linter.unusedVariables false
set_option linter.unusedSimpArgs false
set_option maxRecDepth 100000
set_option maxHeartbeats 8000000
open List renaming length->kG
open Go.Proofs.YtppnakkaljbmbaaGreatDoor.Kit renaming Src->yZ,Own->yg,zAg->yh
open Go.Proofs.YtppnakkaljbmbaaGreatDoor.Crc renaming sum->yu,U->xD,fold->xq
open Go.RowKit
open Go.Proofs.Tryz
open Go.Value renaming int->qV,string->qW,slice->qX,pointer->qY,tuple->qZ,bool->qc
open Go.IntKind renaming i64->qj,u8->ql
open Go.Obj renaming cells->qm
open Go.Ending renaming returned->qp
open Option renaming some->qw,none->qx
open Go renaming World->qy,Value->qz,TypeId->yA,Addr->yB,Calls->yC
open Bool renaming true->yD,false->yE
open Go.Proofs.Tryz renaming prog->yG
open Go.RowKit renaming Hid->yH,Below->yI
open Go.World renaming cell?->yM
open Go.RowKit.Below renaming refl->yN
open And renaming intro->yO
namespace Go.Proofs.YtppnakkaljbmbaaGreatDoor
namespace Bk
open Bt Zr Sq St
abbrev TRd:yA:=409
structure Rx where
 a:ByteArray
 i:Nat
 t:Option yB
 tn:Nat
 tc:Nat
 c:Option yB
 cn:Nat
 cc:Nat
 codes:Nat
def RD (w:qy) (R:Nat) (x:Rx):Prop:=w.heap[R]? =qw (qm #[qW x.a,qV qj (x.i:Int),qX x.t x.tn x.tc,qX x.c x.cn x.cc,qV qj (x.codes:Int)] TRd)
section
variable {w w':qy} {R:Nat} {x:Rx}
theorem RD.lt (h:RD w R x):R<w.heap.size:=zAd h
theorem RD.keep (h:RD w R x) (e:w'.heap[R]? =w.heap[R]?):RD w' R x:=e.trans h
theorem RD.below (h:RD w R x) (a:yI w.heap.size w w'):RD w' R x:=h.keep (a.block R h.lt)
theorem RD.c0 (h:RD w R x):w.cell? ⟨R,0,qx⟩=qw (qW x.a):=by unfold RD at h;simp[yM,h]
theorem RD.c1 (h:RD w R x):w.cell? ⟨R,1,qx⟩=qw (qV qj (x.i:Int)):=by unfold RD at h;simp[yM,h]
theorem RD.c2 (h:RD w R x):w.cell? ⟨R,2,qx⟩=qw (qX x.t x.tn x.tc):=by unfold RD at h;simp[yM,h]
theorem RD.c3 (h:RD w R x):w.cell? ⟨R,3,qx⟩=qw (qX x.c x.cn x.cc):=by unfold RD at h;simp[yM,h]
theorem RD.c4 (h:RD w R x):w.cell? ⟨R,4,qx⟩=qw (qV qj (x.codes:Int)):=by unfold RD at h;simp[yM,h]
theorem RD.fr (h:RD w R x) (i:Nat):w.frozen? ⟨R,i,qx⟩=yE:=by unfold RD at h;simp[World.frozen?,h]
theorem RD.l0 (h:RD w R x):(loadVar 9 ⟨R,0,qx⟩).run yG w= .ok (qW x.a) w:=yh h.c0 zf zf
theorem RD.l1 (h:RD w R x):(loadVar 3 ⟨R,1,qx⟩).run yG w= .ok (qV qj (x.i:Int)) w:=yh h.c1 zf zf
theorem RD.l2 (h:RD w R x):(loadVar 60 ⟨R,2,qx⟩).run yG w= .ok (qX x.t x.tn x.tc) w:=yh h.c2 zf zf
theorem RD.l3 (h:RD w R x):(loadVar 23 ⟨R,3,qx⟩).run yG w= .ok (qX x.c x.cn x.cc) w:=yh h.c3 zf zf
theorem RD.l4 (h:RD w R x):(loadVar 3 ⟨R,4,qx⟩).run yG w= .ok (qV qj (x.codes:Int)) w:=yh h.c4 zf zf
theorem RD.s1 (h:RD w R x) (j:Nat) {V:Int} (a:V=(j:Int)):RD (w.setCell ⟨R,1,qx⟩ (qV qj V)) R {x with i:=j}:=by
 subst a;unfold RD at*;simp[World.setCell,qQs,h]
theorem RD.s2 (h:RD w R x) (t:Option yB) (n c:Nat):RD (w.setCell ⟨R,2,qx⟩ (qX t n c)) R {x with t:=t,tn:=n,tc:=c}:=by
 unfold RD at*;simp[World.setCell,qQs,h]
theorem RD.s3 (h:RD w R x) (t:Option yB) (n c:Nat):RD (w.setCell ⟨R,3,qx⟩ (qX t n c)) R {x with c:=t,cn:=n,cc:=c}:=by
 unfold RD at*;simp[World.setCell,qQs,h]
theorem RD.s4 (h:RD w R x) (j:Nat) {V:Int} (a:V=(j:Int)):RD (w.setCell ⟨R,4,qx⟩ (qV qj V)) R {x with codes:=j}:=by
 subst a;unfold RD at*;simp[World.setCell,qQs,h]
end
theorem zPn (w:qy):yC yG 320 #[qV qj 0] w fun e w'=>e=qp (qZ #[])/\w'=w:=by
 go_enter func320,ntmps320;go_wp2;go_end0;exact⟨rfl,rfl⟩
theorem zJv (e:Int) (w:qy):yC yG 286 #[qc yD,qV qj e] w fun e w'=>e=qp (qZ #[])/\w'=w:=by
 go_enter func286,ntmps286;go_wp2;go_end0;exact⟨rfl,rfl⟩
theorem zIc (R j:Nat) (x:Rx) (w:qy) (h:RD w R x):
  yC yG 316 #[qY (qw ⟨R,0,qx⟩),qV qj (j:Int),qV qj 0] w fun e w'=>e=qp (qZ #[])/\RD w' R {x with i:=j}/\Upd w w' R:=by
 have a:=zH (fun W=>zPn W);have c:=h.c1;have b:=h.fr 1;have H:=zH (yO (h.s1 j rfl) (Upd.set (w:=w) (K:=R) (i:=1) (v:=qV qj (j:Int))));clear h;go_enter func316,ntmps316;go_wp2_with fail;(with_reducible refine(a.out _).mono ?_);rintro e w2 ⟨rfl,rfl⟩;go_wp2;go_end0;exact⟨rfl,H.out.1,H.out.2⟩
theorem zFx (R n v:Nat) (x:Rx) (N:Int) (j:N=(n:Int)) (w:qy) (h:RD w R x) (k:n<=62) (hi:x.i+n<=8*x.a.size) (l:x.a.size<=100000000) (hv:val (take x.a x.i n)=v):
  yC yG 315 #[qY (qw ⟨R,0,qx⟩),qV qj N] w fun e w'=>e=qp (qV qj (v:Int))/\RD w' R {x with i:=x.i+n}/\Upd w w' R:=by
 subst j;have r:v<4611686018427387904:=by
  have g:=zEy (take x.a x.i n);rw[take_length]at g;have t:(2:Nat)^n<=2^62:=qR8 za k;omega
 have c:=zH (fun W=>(zB7 x.a x.i n za hi za W).mono (fun _ _ h=>(⟨h.1,h.2.symm⟩:_/\_)));rw[hv]at c;have f:=zH (fun W=>zPn W);have o:=h.c0;have p:=h.c1;have s:=h.fr 1;have H:=zH (fun(q:Nat)=>yO (RD.s1 (w:=w.drewN q) (show RD (w.drewN q) R x from h) (x.i+n) (V:=(x.i:Int)+(n:Int)) za) ((show Upd w (w.drewN q) R from⟨fun _ _ _=>rfl,⟨rfl,rfl,rfl,qPq _,fun _ _=>rfl⟩⟩).trans (Upd.set (i:=1) (v:=qV qj ((x.i:Int)+(n:Int))))));have u:IntKind.i64.wrap (v:Int)=(v:Int):=qQb _ ⟨za,za⟩;have m:IntKind.i64.wrap ((x.i:Int)+(n:Int))=(x.i:Int)+(n:Int):=qQb _ ⟨za,za⟩;obtain⟨i,b⟩:=zB x.i;obtain⟨a,d⟩:=zB x.a;rw[b]at p c H m hi;rw[d]at o c hi l;rw[b];clear h hv b d;go_enter func315,ntmps315;go_wp2;go_quiet ((go_at_call 32;exact Calls.quiet_of_same (c.out _)));go_wp2_with fail;(with_reducible refine(f.out _).mono ?_);rintro e w2 ⟨rfl,rfl⟩;go_wp2;go_ret;exact⟨rfl,(H.out nq).1,(H.out nq).2⟩
end Bk
namespace Bk
open Hf Bt Zr Front Wg Ch Sl Sq St Tn
variable {w w':qy} {R D n c i:Nat} {e:yA} {a:Option yB} {xs:List qz} {s:ByteArray} {l m:List Bool}
theorem zEl (h:yg w D e a n c xs) (d:Upd w w' R) (g:R<D):yg w' D e a n c xs:=
 zJs h (fun k f b=>d.old k b za)
theorem zXz {p:Option yB} {k:Nat} {j:List qz} {b:List (List Nat)} (h:Gr w D p k c j b) (f:Upd w w' R) (d:R<D):Gr w' D p k c j b:=
 ⟨zEl h.own f d,h.len,fun i g t=>by
  obtain⟨G,c',o,q,r⟩:=h.each i g t;exact⟨G,c',o,q,zEl r f d⟩⟩
theorem At.left (h:At s i (l++m)):At s i l:=(At.app.1 h).1
theorem At.right {j:Nat} (h:At s i (l++m)) (b:i+kG l=j):At s j m:=b▸(At.app.1 h).2
theorem At.bound (h:At s i l):i+kG l<=8*s.size:=h.1
theorem qFe (h:yg w D e a n c xs) (x:∀b,b<w.heap.size->(∀q f,w.heap[b]?≠qw (qm q TL_ f))->w'.heap[b]? =w.heap[b]?) (u:e≠TL_):yg w' D e a n c xs:=by
 obtain⟨t,o⟩:=h;refine⟨t,?_⟩;rcases o with o|⟨g,j,d,hv,i,p,r⟩
 ·exact .inl o
 ·exact .inr ⟨g,j,d,hv,i,(x g (zAd p) (fun q f k=>by rw[p]at k;injection k with k;injection k with _ k _;exact u k)).trans p,r⟩
theorem Upd.bel {d:qy} (h:Upd w d R) (b:yI D d w') (j:w.heap.size=D) (o:R<D):Upd w w' R:=
 ⟨fun k f g=>(b.block k za).trans (h.old k f g),h.below.trans (b.mono za)⟩
theorem zXu (R y N i:Nat) (a:ByteArray) (c0:Option yB) (b5 b4:Nat) (ch t0 t1:List Nat) (w:qy) (h:RD w R ⟨a,i,qx,0,0,c0,b5,b4,N⟩) (hs:a.size<=100000000) (b6:kG ch=y) (bd:0<y) (bf:y<=10000) (b7:∀x∈ch,x<=1) (h2:2<=N) (bc:N<=258)
  (ba:Right t0) (bb:Right t1) (b8:kG t0=N) (b9:kG t1=N) (ha:At a i (num 2 3++(num y 15++(zAz yE ch++(delta t0++delta t1))))):
  yC yG 317 #[qY (qw ⟨R,0,qx⟩)] w fun e w'=>∃tp tc vs z cc,e=qp (qZ #[])/\RD w' R ⟨a,i+3+15+kG (zAz yE ch)+kG (delta t0)+kG (delta t1),tp,2,tc,z,y,cc,N⟩/\
   Gr w' w.heap.size tp 2 tc vs [t0,t1]/\yg w' w.heap.size 3 z y cc (ch.map ival)/\Upd w w' R:=by
 have a1:=At.left ha;have a8:=At.right ha (j:=i+3) (by rw[zAc]);have a2:=At.left a8;have S:=At.right a8 (j:=i+3+15) (by rw[zAc]);have a3:=At.left S;have M:=At.right S rfl;have a4:=At.left M;have a5:=At.right M rfl;have b1:=At.bound a1;have b2:=At.bound a2;have b3:=At.bound a3;rw[zAc]at b1 b2;have ak:=At.bound a5;have am:=At.bound a4;obtain⟨ai,HM,HO,au,A3,A4,A5,ap,ay⟩:=yY (zFx R 3 2 ⟨a,i,qx,0,0,c0,b5,b4,N⟩ 3 rfl w h za b1 hs (At.val a1 za)) (fun(e:Int) (w:qy)=>zJv e w) (fun(w:qy)=>zPn w) (At.val a2 za) a3 a4 a5 b7 b6;obtain⟨R0,R1,L0,L1⟩:=yS ba bb b8 b9;obtain⟨E,hE⟩:=zB w.heap.size;have d:R<E:=by rw[<-hE];exact h.lt
 have HE:=zH hE;have bi:8*a.size<=800000000:=za
 rw[hE];clear ha a1 a8 a2 S a3 M a4 a5 h b7 b6 ba bb b8 b9 hE;go_enter func317,ntmps317;go_wp2_with fail;(with_reducible refine ai.out.mono ?_);rintro e w1 ⟨rfl,hk,hu⟩;have K1:=yP (RD w1 R ⟨a,i+3,qx,0,0,c0,b5,b4,N⟩) hk;have U1:=zH hu;rw[show((2:Nat):Int)=(2:Int)from rfl];clear hk hu ai;go_wp2_with fail;(with_reducible refine(HM.out _ _).mono ?_);rintro e w2 ⟨rfl,rfl⟩;have ae:=zH (zFx R 15 y ⟨a,i+3,qx,0,0,c0,b5,b4,N⟩ 15 rfl w2 K1.out za b2 hs au.out);go_wp2_with fail;(with_reducible refine ae.out.mono ?_);rintro e w3 ⟨rfl,hk,hu⟩;have K3:=yP (RD w3 R ⟨a,i+3+15,qx,0,0,c0,b5,b4,N⟩) hk;have U3:=zH (U1.out.trans hu);have j1:decide ((0:Int)<(y:Int))=yD:=qP9 za;have ao:decide (0<y)=yD:=qP9 bd;clear hk hu ae K1 U1;go_wp2_with fail;(with_reducible refine(HM.out _ _).mono ?_);rintro e w4 ⟨rfl,rfl⟩;have b:=yP (RD w4.drew R ⟨a,i+3+15,qx,0,0,c0,b5,b4,N⟩) K3.out;obtain⟨UD,aj⟩:=yQ (U3.out.trans (Upd.drew w4 R)) (zOa a (i+3+15) ch y w4.drew ay.out bf hs ap.out A3.out);clear K3 U3 j1 ao;go_wp2;refine zS [] (fun _=>True) [0,1,2,4,8,0,32,64,128,256,0,0,3600,4096,8192,8192,8192,32767,196607,524287] 20<|zp [0,1,2,3,4,5,6,7,8,9,10,11]<|zk 29 (zP R 0)<|zk 30 (zP R 0)<|zk 31 (zP R 0)<|zk 32 (zP R 0)<|zt 33 (qW a) (zl 9 32 (b.out.l0))<|zk 34 (zP R 0)<|zk 35 (zP R 0)<|zk 36 (zP R 0)<|zk 37 (zP R 1)<|zt 38 (qV qj ((i+3+15:Nat):Int)) (zl 3 37 (b.out.l1))<|zk 39 (zI y)<|zk 40 (qV qj 2)<|zn<|zx 12 41 34 #[qW a,qV qj ((i+3+15:Nat):Int),qV qj (y:Int),qV qj 2] aj.out<| ?_
 rintro e w5 ⟨z,cc,rfl,ab,a6⟩;refine⟨_,rfl,.inr (.inr trivial),?_⟩;refine zp [13,14,15,16,17,18,19]<|zk 28 (qZ #[qX z y cc,qV qj ((i+3+15+kG (zAz yE ch):Nat):Int),qV qj 0])<|zk 42 (qX z y cc)<|zk 43 (qV qj ((i+3+15+kG (zAz yE ch):Nat):Int))<|zk 44 (qV qj 0)<|zk 4 (qX z y cc)<|zk 5 (qV qj ((i+3+15+kG (zAz yE ch):Nat):Int))<|zk 6 (qV qj 0)<|zn<|zE<| ?_
 simp only[zP,zI,Act.put,qPz,qPy,qP0];have ax:=b.out.lt;obtain⟨K5,U5,O5⟩:=yR (b.out.below a6) (UD.out.trans (Upd.of_below a6 (qP6 ax))) (ab.base (B':=E) (by rw[<-HE.out];exact UD.out.size));clear a6 ab aj b UD;obtain⟨j,hj⟩:=zB (i+3+15+kG (zAz yE ch));rw[hj]at A4 A5 am ak;rw[hj];have HJ:=zH hj;clear hj;have m:=zH (zIc R j _ w5 K5.out);go_wp2_with fail;(with_reducible refine m.out.mono ?_);rintro e w6 ⟨rfl,hk,hu⟩;have u:=hk;obtain⟨O6,U6⟩:=yQ (zEl O5.out hu d) (U5.out.trans hu);have x3:=u.c3;have f3:=u.fr 3;simp only at x3;have K7:=yP (RD (w6.setCell ⟨R,3,qx⟩ (qX z y cc)) R ⟨a,j,qx,0,0,z,y,cc,N⟩) (u.s3 z y cc);obtain⟨O7,U7⟩:=yQ (zCz (r:=R) (i:=3) O6.out d (qX z y cc)) (U6.out.trans (Upd.set (i:=3) (v:=qX z y cc)));clear hk hu u K5 U5 O5 m O6 U6;go_wp2;go_loopw [56] (fun iv wr=>∃(k tc:Nat) (tp:Option yB) (vs:List qz),k<=2/\iv=qV qj k/\yH (RD wr R ⟨a,j+kG (([t0,t1].take k).flatMap delta),tp,k,tc,z,y,cc,N⟩)/\yH (Gr wr E tp k tc vs ([t0,t1].take k))/\yH (yg wr E 3 z y cc (ch.map ival))/\yH (Upd w wr R)) (fun iv _=>2-(intOf iv).toNat)
 case atStart=>exact⟨0,0,qx,[],za,rfl,K7,zH (Gr.start _ _),O7,U7⟩
 case round=>
  clear K7 O7 U7;obtain⟨k,tc,tp,vs,bg,rfl,I,a7,s,p⟩:=hrel;by_cases bh:k<2
  ·obtain⟨tk,Z,t,O,Y⟩:∃tk,At a (j+kG (([t0,t1].take k).flatMap delta)) (delta tk)/\Right tk/\kG tk=N/\[t0,t1].take (k+1)=[t0,t1].take k++[tk]:=by
    obtain rfl|rfl:k=0\/k=1:=za
    ·exact⟨t0,A4.out,R0.out,L0.out,rfl⟩
    ·exact⟨t1,by simpa using A5.out,R1.out,L1.out,rfl⟩
   obtain⟨q,hq⟩:=zB (j+kG (([t0,t1].take k).flatMap delta));have K:=zH (yO Y (show j+kG (([t0,t1].take (k+1)).flatMap delta)=q+kG (delta tk) by rw[Y,List.flatMap_append,qPx,<-hq];simp;omega));rw[hq]at Z I;have b:=yP (RD wr.drew R ⟨a,q,tp,k,tc,z,y,cc,N⟩) I.out;obtain⟨UD,GD,OD,ag,V⟩:=yT (p.out.trans (Upd.drew wr R)) (a7.out.below (show yI wr.heap.size wr wr.drew from(yN _ _).drew) (qPq _)) (s.out.below (show yI wr.heap.size wr wr.drew from(yN _ _).drew) (qPq _)) (zI7 a q tk N wr.drew O h2 bc hs (fun x hx=>⟨t.one x hx,t.top x hx⟩) Z) (yO t O);clear I p a7 s Z Y hq t O;go_wp2;refine zS [] (fun _=>True) [0,1,2,4,8,0,32,64,128,256,0,1024,2048,4096,8720,16384,32768,32768,32768,131071,786431,2097151] 22<|zp [0,1,2,3,4,5,6,7,8,9,10,11,12,13]<|zk 59 (zP R 0)<|zk 60 (zP R 0)<|zk 61 (zP R 0)<|zk 62 (zP R 0)<|zt 63 (qW a) (zl 9 62 (b.out.l0))<|zk 64 (zP R 0)<|zk 65 (zP R 0)<|zk 66 (zP R 0)<|zk 67 (zP R 1)<|zt 68 (zI q) (zl 3 67 (b.out.l1))<|zk 69 (zP R 0)<|zk 70 (zP R 0)<|zk 71 (zP R 4)<|zt 72 (zI N) (zl 3 71 (b.out.l4))<|zn<|zx 14 73 35 #[qW a,qV qj ((q:Nat):Int),qV qj (N:Int)] ag.out<| ?_
   rintro e w8 ⟨a2,c2,rfl,aa,l⟩;refine⟨_,rfl,.inr (.inr trivial),?_⟩;refine zp [15,16,17,18,19,20,21]<|zk 58 (qZ #[qX a2 N c2,qV qj ((q+kG (delta tk):Nat):Int),qV qj 0])<|zk 74 (qX a2 N c2)<|zk 75 (qV qj ((q+kG (delta tk):Nat):Int))<|zk 76 (qV qj 0)<|zk 7 (qX a2 N c2)<|zk 8 (qV qj ((q+kG (delta tk):Nat):Int))<|zk 9 (qV qj 0)<|zn<|zE<| ?_
   simp only[zP,zI,Act.put,qPz,qPy,qP0];have af:=b.out.lt;obtain⟨K8,U8,O8,G8,T8⟩:=yT (b.out.below l) (UD.out.trans (Upd.of_below l (qP6 af))) (OD.out.below l (qPq _)) (GD.out.below l (qPq _)) (aa.base (B':=E) (by rw[<-HE.out];exact UD.out.size));clear l aa ag b UD GD OD af;obtain⟨q2,X⟩:=zB (q+kG (delta tk));rw[X]at K;rw[X];clear X;have m:=zH (zIc R q2 _ w8 K8.out);go_wp2_with fail;(with_reducible refine m.out.mono ?_);rintro e w9 ⟨rfl,hk,hu⟩;have K9:=yP (RD w9 R ⟨a,q2,tp,k,tc,z,y,cc,N⟩) hk;obtain⟨U9,O9,G9,T9⟩:=yS (U8.out.trans hu) (zEl O8.out hu d) (zXz G8.out hu d) (zEl T8.out hu d);clear hk hu m K8 U8 O8 G8 T8;have ac:=zH (zCk tk a2 N c2 w9 V.out.2 T9.out.src V.out.1);go_wp2_with fail;(with_reducible refine ac.out.mono ?_);rintro e bj ⟨rfl,c⟩;obtain⟨H,P,ad,ah⟩:=yS (K9.out.below c) (U9.out.trans (Upd.of_below c (qP6 K9.out.lt))) (O9.out.below c (qPq _)) (G9.out.below c (qPq _));have g:=T9.out.below c (qPq _);clear c ac K9 U9 O9 G9 T9;go_wp2_with fail;(with_reducible refine(HO.out _).mono ?_);rintro e bk ⟨rfl,rfl⟩;obtain⟨G,rfl,_,_,a9,_,_⟩:=g.at_ za;obtain⟨L,hL⟩:=zB (kG tk);obtain rfl:N=L:=by rw[<-hL];exact V.out.2.symm
   rw[<-hL]at g a9;obtain⟨p2,f,b0,W,n,o,a0⟩:=ah.out.app g a9 za (by have:=P.out.size;rw[HE.out]at this;exact this);rw[hL]at W n;have x2:=H.out.c2;simp only at x2;have l2:=H.out.l2;simp only at l2;have F:=H.out.keep (o.block R za);have f2:=F.fr 2;have an:=F.c2;simp only at an;have aq:=yP (RD (b0.setCell ⟨R,2,qx⟩ (qX p2 (k+1) f)) R ⟨a,q2,p2,k+1,f,z,y,cc,N⟩) (F.s2 p2 (k+1) f);obtain⟨ar,av,az⟩:=yR (n.set (B:=R) (i:=2) d (qX p2 (k+1) f)) (zCz (r:=R) (i:=2) (qFe ad.out a0 z8) d (qX p2 (k+1) f)) ((Upd.bel P.out o HE.out d).trans (Upd.set (i:=2) (v:=qX p2 (k+1) f)));clear F H ah ad P n o a0 g a9;go_wp2_with (at_builtin;refine Kit.zAr rfl (.tmp 90) (.tmp 92) 60 rfl rfl rfl W ?_);go_roundw
   case rel=>exact⟨k+1,f,p2,_,za,by go_num,by rw[K.out.2];exact aq,by rw[K.out.1];exact ar,av,az⟩
   case measure=>simp only[intOf];omega
  ·obtain rfl:k=2:=za
   rw[show((2:Nat):Int)=(2:Int)from rfl];go_wp2;go_end0;exact⟨_,_,_,_,_,rfl,by rw[HJ.out,Nat.add_assoc];simpa using I.out,a7.out,s.out,p.out⟩
end Bk
end Go.Proofs.YtppnakkaljbmbaaGreatDoor
section
namespace Go.Proofs
open Go.Proofs.YtppnakkaljbmbaaGreatDoor
open Go.Shelf
def Tryz.zKl:Go.Shelf.Ren:=⟨fun|156=>275|165=>311|166=>62|169=>63|240=>140|241=>335|276=>190|277=>355|n=>n,fun|31=>49|9=>9|3=>3|4=>4|0=>0|20=>20|72=>120|76=>125|70=>118|37=>109|75=>124|127=>240|164=>318|5=>5|80=>127|n=>n,fun|n=>n⟩
theorem Tryz.qDk:Go.Proofs.Lays.n156 yG zKl:={
 mixed:=zf
 f156:=func275.trans (qPs qw zf)
 f165:=func311.trans (qPs qw zf)
 f166:=func62.trans (qPs qw zf)
 f169:=func63.trans (qPs qw zf)
 f240:=func140.trans (qPs qw zf)
 f241:=func335.trans (qPs qw zf)
 f276:=func190.trans (qPs qw zf)
 f277:=func355.trans (qPs qw zf)
 t0:=underlying0
 a0:=isAgg0
 z0:=sizeOf0
 v0:=zeroValue0
 t3:=underlying3
 a3:=isAgg3
 z3:=sizeOf3
 v3:=zeroValue3
 t4:=underlying4
 a4:=isAgg4
 z4:=sizeOf4
 v4:=zeroValue4
 t9:=underlying9
 a9:=isAgg9
 z9:=sizeOf9
 v9:=zeroValue9
 t20:=underlying20
 a20:=isAgg20
 z20:=sizeOf20
 v20:=zeroValue20
 t31:=underlying49
 a31:=isAgg49
 z31:=sizeOf49
 v31:=zeroValue49
 t37:=underlying109
 a37:=isAgg109
 z37:=sizeOf109
 v37:=zeroValue109
 t70:=underlying118
 a70:=isAgg118
 z70:=sizeOf118
 v70:=zeroValue118
 t72:=underlying120
 a72:=isAgg120
 z72:=sizeOf120
 v72:=zeroValue120
 t75:=underlying124
 a75:=isAgg124
 z75:=sizeOf124
 v75:=zeroValue124
 t76:=underlying125
 a76:=isAgg125
 z76:=sizeOf125
 v76:=zeroValue125
 t127:=underlying240
 a127:=isAgg240
 z127:=sizeOf240
 v127:=zeroValue240
 t164:=underlying318
 a164:=isAgg318
 z164:=sizeOf318
 v164:=zeroValue318}
theorem Tryz.zKc:Builder.Extra yG zKl:={
 sizeBuilder:=zf
 liesBuilder:=zf
 t5:=underlying5
 a5:=isAgg5
 z5:=sizeOf5
 v5:=zeroValue5
 infoByte:=zf
 cellsByte:=zf
 sizeByte:=zf
 neB5:=by decide}
open Go.RowKit in
theorem Tryz.strings_Join (b o c:Nat) (xs:List ByteArray) (a:ByteArray) (w:qy) (hcells:∀(j:Nat) x,xs[j]? =qw x->w.cell? ⟨b,o+j,qx⟩=qw (qW x)) (g:b<w.heap.size) (h:kG xs<=140737488355328) (d:kG xs<=c) (f:kG (Lib.join (xs.map (·.data.toList)) a.data.toList)<=140737488355328):
  yC yG 275 #[qX (qw ⟨b,o,qx⟩) (kG xs) c,qW a] w fun e w'=>e=qp (qW ⟨(Lib.join (xs.map (·.data.toList)) a.data.toList).toArray⟩)/\yI w.heap.size w w':=Any.strings_Join qDk zKc b o c xs a w hcells g h d f
def Tryz.zSx:Go.Shelf.Ren:=⟨fun|137=>272|217=>300|266=>326|n=>n,fun|9=>9|5=>5|3=>3|n=>n,fun|n=>n⟩
theorem Tryz.qDm:Go.Proofs.Lays.n137 yG zSx:={
 mixed:=zf
 f137:=func272.trans (qPs qw zf)
 f217:=func300.trans (qPs qw zf)
 f266:=func326.trans (qPs qw zf)
 t3:=underlying3
 a3:=isAgg3
 z3:=sizeOf3
 v3:=zeroValue3
 t5:=underlying5
 a5:=isAgg5
 z5:=sizeOf5
 v5:=zeroValue5
 t9:=underlying9
 a9:=isAgg9
 z9:=sizeOf9
 v9:=zeroValue9}
open Go.RowKit in
theorem Tryz.strings_IndexByte (s:ByteArray) (c:Int) (w:qy):
  yC yG 272 #[qW s,qV ql c] w fun e w'=>e=qp (qV qj (Lib.indexByte s.data.toList c.toNat.toUInt8))/\w'=w:=Any.strings_IndexByte qDm s c w
def Tryz.zSt:Go.Shelf.Ren:=⟨fun|172=>226|244=>269|245=>270|247=>304|279=>305|280=>306|281=>307|282=>308|287=>328|316=>329|171=>227|205=>330|321=>349|322=>350|243=>271|246=>309|283=>331|284=>332|285=>333|286=>334|129=>241|317=>351|318=>352|319=>353|320=>354|337=>361|338=>362|n=>n,fun|9=>9|3=>3|75=>124|76=>125|4=>4|5=>5|167=>425|37=>109|0=>0|85=>426|2=>2|168=>428|53=>64|175=>449|46=>178|210=>452|127=>240|145=>474|143=>472|21=>21|171=>454|173=>456|212=>476|51=>65|20=>20|213=>477|232=>496|233=>497|80=>127|n=>n,fun|15=>3|16=>4|17=>5|18=>7|19=>8|n=>n⟩
theorem Tryz.qDg:Go.Proofs.Lays.n172 yG zSt:={
 mixed:=zf
 f129:=func241.trans (qPs qw zf)
 f171:=func227.trans (qPs qw zf)
 f172:=func226.trans (qPs qw zf)
 f205:=func330.trans (qPs qw zf)
 f243:=func271.trans (qPs qw zf)
 f244:=func269.trans (qPs qw zf)
 f245:=func270.trans (qPs qw zf)
 f246:=func309.trans (qPs qw zf)
 f247:=func304.trans (qPs qw zf)
 f279:=func305.trans (qPs qw zf)
 f280:=func306.trans (qPs qw zf)
 f281:=func307.trans (qPs qw zf)
 f282:=func308.trans (qPs qw zf)
 f283:=func331.trans (qPs qw zf)
 f284:=func332.trans (qPs qw zf)
 f285:=func333.trans (qPs qw zf)
 f286:=func334.trans (qPs qw zf)
 f287:=func328.trans (qPs qw zf)
 f316:=func329.trans (qPs qw zf)
 f317:=func351.trans (qPs qw zf)
 f318:=func352.trans (qPs qw zf)
 f319:=func353.trans (qPs qw zf)
 f320:=func354.trans (qPs qw zf)
 f321:=func349.trans (qPs qw zf)
 f322:=func350.trans (qPs qw zf)
 f337:=func361.trans (qPs qw zf)
 f338:=func362.trans (qPs qw zf)
 t0:=underlying0
 a0:=isAgg0
 z0:=sizeOf0
 v0:=zeroValue0
 t2:=underlying2
 a2:=isAgg2
 z2:=sizeOf2
 v2:=zeroValue2
 t3:=underlying3
 a3:=isAgg3
 z3:=sizeOf3
 v3:=zeroValue3
 t4:=underlying4
 a4:=isAgg4
 z4:=sizeOf4
 v4:=zeroValue4
 t5:=underlying5
 a5:=isAgg5
 z5:=sizeOf5
 v5:=zeroValue5
 t9:=underlying9
 a9:=isAgg9
 z9:=sizeOf9
 v9:=zeroValue9
 t20:=underlying20
 a20:=isAgg20
 z20:=sizeOf20
 v20:=zeroValue20
 t21:=underlying21
 a21:=isAgg21
 z21:=sizeOf21
 v21:=zeroValue21
 t37:=underlying109
 a37:=isAgg109
 z37:=sizeOf109
 v37:=zeroValue109
 t46:=underlying178
 a46:=isAgg178
 z46:=sizeOf178
 v46:=zeroValue178
 t51:=underlying65
 a51:=isAgg65
 z51:=sizeOf65
 v51:=zeroValue65
 t53:=underlying64
 a53:=isAgg64
 z53:=sizeOf64
 v53:=zeroValue64
 t75:=underlying124
 a75:=isAgg124
 z75:=sizeOf124
 v75:=zeroValue124
 t76:=underlying125
 a76:=isAgg125
 z76:=sizeOf125
 v76:=zeroValue125
 t85:=underlying426
 a85:=isAgg426
 z85:=sizeOf426
 v85:=zeroValue426
 t127:=underlying240
 a127:=isAgg240
 z127:=sizeOf240
 v127:=zeroValue240
 t143:=underlying472
 a143:=isAgg472
 z143:=sizeOf472
 v143:=zeroValue472
 t145:=underlying474
 a145:=isAgg474
 z145:=sizeOf474
 v145:=zeroValue474
 t167:=underlying425
 a167:=isAgg425
 z167:=sizeOf425
 v167:=zeroValue425
 t168:=underlying428
 a168:=isAgg428
 z168:=sizeOf428
 v168:=zeroValue428
 t171:=underlying454
 a171:=isAgg454
 z171:=sizeOf454
 v171:=zeroValue454
 t173:=underlying456
 a173:=isAgg456
 z173:=sizeOf456
 v173:=zeroValue456
 t175:=underlying449
 a175:=isAgg449
 z175:=sizeOf449
 v175:=zeroValue449
 t210:=underlying452
 a210:=isAgg452
 z210:=sizeOf452
 v210:=zeroValue452
 t212:=underlying476
 a212:=isAgg476
 z212:=sizeOf476
 v212:=zeroValue476
 t213:=underlying477
 a213:=isAgg477
 z213:=sizeOf477
 t232:=underlying496
 a232:=isAgg496
 z232:=sizeOf496
 v232:=zeroValue496
 t233:=underlying497
 a233:=isAgg497
 z233:=sizeOf497
 v233:=zeroValue497
 g15:=zf
 g16:=zf
 g17:=zf
 g18:=zf
 g19:=by kernel_rfl}
open Go.RowKit in
theorem Tryz.strconv_Atoi (s:ByteArray) (n:Int) (a:s.size<=18) (h:Lib.atoi s.data.toList=qw n) (w:qy):
  yC yG 226 #[qW s] w fun e w'=>e=qp (qZ #[qV qj n,.nilIface])/\∃t,w'=Lib.bytesWorld w 5 t:=Any.strconv_Atoi qDg s n a h w
def Tryz.zSu:Go.Shelf.Ren:=⟨fun|171=>227|243=>271|246=>309|283=>331|284=>332|285=>333|286=>334|129=>241|317=>351|318=>352|319=>353|320=>354|337=>361|338=>362|n=>n,fun|3=>3|9=>9|2=>2|4=>4|171=>454|0=>0|53=>64|37=>109|5=>5|173=>456|212=>476|51=>65|20=>20|213=>477|46=>178|232=>496|233=>497|n=>n,fun|17=>5|18=>7|19=>8|n=>n⟩
theorem Tryz.qDh:Go.Proofs.Lays.n171 yG zSu:={
 mixed:=zf
 f129:=func241.trans (qPs qw zf)
 f171:=func227.trans (qPs qw zf)
 f243:=func271.trans (qPs qw zf)
 f246:=func309.trans (qPs qw zf)
 f283:=func331.trans (qPs qw zf)
 f284:=func332.trans (qPs qw zf)
 f285:=func333.trans (qPs qw zf)
 f286:=func334.trans (qPs qw zf)
 f317:=func351.trans (qPs qw zf)
 f318:=func352.trans (qPs qw zf)
 f319:=func353.trans (qPs qw zf)
 f320:=func354.trans (qPs qw zf)
 f337:=func361.trans (qPs qw zf)
 f338:=func362.trans (qPs qw zf)
 t0:=underlying0
 a0:=isAgg0
 z0:=sizeOf0
 v0:=zeroValue0
 t2:=underlying2
 a2:=isAgg2
 z2:=sizeOf2
 v2:=zeroValue2
 t3:=underlying3
 a3:=isAgg3
 z3:=sizeOf3
 v3:=zeroValue3
 t4:=underlying4
 a4:=isAgg4
 z4:=sizeOf4
 v4:=zeroValue4
 t5:=underlying5
 a5:=isAgg5
 z5:=sizeOf5
 v5:=zeroValue5
 t9:=underlying9
 a9:=isAgg9
 z9:=sizeOf9
 v9:=zeroValue9
 t20:=underlying20
 a20:=isAgg20
 z20:=sizeOf20
 v20:=zeroValue20
 t37:=underlying109
 a37:=isAgg109
 z37:=sizeOf109
 v37:=zeroValue109
 t46:=underlying178
 a46:=isAgg178
 z46:=sizeOf178
 v46:=zeroValue178
 t51:=underlying65
 a51:=isAgg65
 z51:=sizeOf65
 v51:=zeroValue65
 t53:=underlying64
 a53:=isAgg64
 z53:=sizeOf64
 v53:=zeroValue64
 t171:=underlying454
 a171:=isAgg454
 z171:=sizeOf454
 v171:=zeroValue454
 t173:=underlying456
 a173:=isAgg456
 z173:=sizeOf456
 v173:=zeroValue456
 t212:=underlying476
 a212:=isAgg476
 z212:=sizeOf476
 v212:=zeroValue476
 t213:=underlying477
 a213:=isAgg477
 z213:=sizeOf477
 t232:=underlying496
 a232:=isAgg496
 z232:=sizeOf496
 v232:=zeroValue496
 t233:=underlying497
 a233:=isAgg497
 z233:=sizeOf497
 v233:=zeroValue497
 g17:=zf
 g18:=zf
 g19:=by kernel_rfl}
open Go.RowKit Go.Sort Go.Lib in
theorem Tryz.strconv_Itoa_small (i:Nat) (hi:i<100) (w:qy):
  yC yG 227 #[qV qj i] w fun e w'=>e=qp (qW ⟨(Lib.decDigits i).toArray⟩)/\w'=w:=Any.strconv_Itoa_small qDh i hi w
def Tryz.zU5:Go.Shelf.Ren:=⟨fun|99=>283|206=>314|n=>n,fun|9=>9|4=>4|3=>3|n=>n,fun|n=>n⟩
theorem Tryz.qFr:Go.Proofs.Lays.n99 yG zU5:={
 mixed:=zf
 f99:=func283.trans (qPs qw zf)
 f206:=func314.trans (qPs qw zf)
 t3:=underlying3
 a3:=isAgg3
 z3:=sizeOf3
 v3:=zeroValue3
 t4:=underlying4
 a4:=isAgg4
 z4:=sizeOf4
 v4:=zeroValue4
 t9:=underlying9
 a9:=isAgg9
 z9:=sizeOf9
 v9:=zeroValue9}
open Go.RowKit Go.Lib in
theorem Tryz.strings_HasPrefix (s p:ByteArray) (w:qy):
  yC yG 283 #[qW s,qW p] w fun e w'=>e=qp (qc (Lib.hasPrefix s.data.toList p.data.toList))/\w'=w:=Any.strings_HasPrefix qFr s p w
def Tryz.zS2:Go.Shelf.Ren:=⟨fun|102=>122|209=>174|207=>230|n=>n,fun|9=>9|4=>4|3=>3|n=>n,fun|n=>n⟩
theorem Tryz.qDr:Go.Proofs.Lays.n102 yG zS2:={
 mixed:=zf
 f102:=func122.trans (qPs qw zf)
 f207:=func230.trans (qPs qw zf)
 f209:=func174.trans (qPs qw zf)
 t3:=underlying3
 a3:=isAgg3
 z3:=sizeOf3
 v3:=zeroValue3
 t4:=underlying4
 a4:=isAgg4
 z4:=sizeOf4
 v4:=zeroValue4
 t9:=underlying9
 a9:=isAgg9
 z9:=sizeOf9
 v9:=zeroValue9}
open Go.RowKit Go.Lib in
theorem Tryz.strings_TrimSuffix (s p:ByteArray) (w:qy) (a:s.size<=9223372036854775807):
  yC yG 122 #[qW s,qW p] w fun e w'=>e=qp (qW ⟨(Lib.trimSuffix s.data.toList p.data.toList).toArray⟩)/\w'=w:=Any.strings_TrimSuffix qDr s p w a
def Tryz.zSr:Go.Shelf.Ren:=⟨fun|221=>169|268=>207|138=>208|143=>209|195=>262|197=>263|218=>264|219=>265|260=>299|217=>300|225=>301|224=>302|267=>303|266=>326|314=>327|n=>n,fun|9=>9|3=>3|31=>49|4=>4|0=>0|105=>376|21=>21|5=>5|46=>178|119=>443|139=>446|138=>445|146=>447|51=>65|n=>n,fun|1=>0|3=>1|4=>2|n=>n⟩
theorem Tryz.qDe:Go.Proofs.Lays.n221 yG zSr:={
 mixed:=zf
 f138:=func208.trans (qPs qw zf)
 f143:=func209.trans (qPs qw zf)
 f195:=func262.trans (qPs qw zf)
 f197:=func263.trans (qPs qw zf)
 f217:=func300.trans (qPs qw zf)
 f218:=func264.trans (qPs qw zf)
 f219:=func265.trans (qPs qw zf)
 f221:=func169.trans (qPs qw zf)
 f224:=func302.trans (qPs qw zf)
 f225:=func301.trans (qPs qw zf)
 f260:=func299.trans (qPs qw zf)
 f266:=func326.trans (qPs qw zf)
 f267:=func303.trans (qPs qw zf)
 f268:=func207.trans (qPs qw zf)
 f314:=func327.trans (qPs qw zf)
 t0:=underlying0
 a0:=isAgg0
 z0:=sizeOf0
 v0:=zeroValue0
 t3:=underlying3
 a3:=isAgg3
 z3:=sizeOf3
 v3:=zeroValue3
 t4:=underlying4
 a4:=isAgg4
 z4:=sizeOf4
 v4:=zeroValue4
 t5:=underlying5
 a5:=isAgg5
 z5:=sizeOf5
 v5:=zeroValue5
 t9:=underlying9
 a9:=isAgg9
 z9:=sizeOf9
 v9:=zeroValue9
 t21:=underlying21
 a21:=isAgg21
 z21:=sizeOf21
 v21:=zeroValue21
 t31:=underlying49
 a31:=isAgg49
 z31:=sizeOf49
 v31:=zeroValue49
 t46:=underlying178
 a46:=isAgg178
 z46:=sizeOf178
 v46:=zeroValue178
 t51:=underlying65
 a51:=isAgg65
 z51:=sizeOf65
 v51:=zeroValue65
 t105:=underlying376
 a105:=isAgg376
 z105:=sizeOf376
 v105:=zeroValue376
 t119:=underlying443
 a119:=isAgg443
 z119:=sizeOf443
 t138:=underlying445
 a138:=isAgg445
 z138:=sizeOf445
 v138:=zeroValue445
 t139:=underlying446
 a139:=isAgg446
 z139:=sizeOf446
 v139:=zeroValue446
 t146:=underlying447
 a146:=isAgg447
 z146:=sizeOf447
 v146:=zeroValue447
 g1:=zf
 g3:=zf
 g4:=by kernel_rfl}
open Go.RowKit Go.Lib in
theorem Tryz.strings_genSplit (s a:ByteArray) (b:Nat) (n:Int) (N:Nat) (m:Int) (w:qy) (j:s.size<4294967281) (i:w.cell? ⟨0,0,qx⟩=qw (qV qj m)) (g:1<=a.size) (f:b<=a.size) (d:n≠0) (c:n<=9223372036854775807) (h:(N:Int)=min (if n<0 then(Lib.countB s a:Int)+1 else n) ((s.size:Int)+1)):
  yC yG 169 #[qW s,qW a,qV qj b,qV qj n] w fun e w'=>
   e=qp (qX (qw ⟨w.heap.size,0,qx⟩) (kG (Lib.splitB a b (N-1) s)) N)/\w'=w.alloc (qm (Lib.cellsOf (Lib.splitB a b (N-1) s) N) 9):=Any.strings_genSplit qDe zf s a b n N m w j i g f d c h
def Tryz.zSw:Go.Shelf.Ren:=⟨fun|146=>170|221=>169|268=>207|138=>208|143=>209|195=>262|197=>263|218=>264|219=>265|260=>299|217=>300|225=>301|224=>302|267=>303|266=>326|314=>327|n=>n,fun|9=>9|31=>49|3=>3|4=>4|0=>0|105=>376|21=>21|5=>5|46=>178|119=>443|139=>446|138=>445|146=>447|51=>65|n=>n,fun|1=>0|3=>1|4=>2|n=>n⟩
theorem Tryz.qDl:Go.Proofs.Lays.n146 yG zSw:={
 mixed:=zf
 f138:=func208.trans (qPs qw zf)
 f143:=func209.trans (qPs qw zf)
 f146:=func170.trans (qPs qw zf)
 f195:=func262.trans (qPs qw zf)
 f197:=func263.trans (qPs qw zf)
 f217:=func300.trans (qPs qw zf)
 f218:=func264.trans (qPs qw zf)
 f219:=func265.trans (qPs qw zf)
 f221:=func169.trans (qPs qw zf)
 f224:=func302.trans (qPs qw zf)
 f225:=func301.trans (qPs qw zf)
 f260:=func299.trans (qPs qw zf)
 f266:=func326.trans (qPs qw zf)
 f267:=func303.trans (qPs qw zf)
 f268:=func207.trans (qPs qw zf)
 f314:=func327.trans (qPs qw zf)
 t0:=underlying0
 a0:=isAgg0
 z0:=sizeOf0
 v0:=zeroValue0
 t3:=underlying3
 a3:=isAgg3
 z3:=sizeOf3
 v3:=zeroValue3
 t4:=underlying4
 a4:=isAgg4
 z4:=sizeOf4
 v4:=zeroValue4
 t5:=underlying5
 a5:=isAgg5
 z5:=sizeOf5
 v5:=zeroValue5
 t9:=underlying9
 a9:=isAgg9
 z9:=sizeOf9
 v9:=zeroValue9
 t21:=underlying21
 a21:=isAgg21
 z21:=sizeOf21
 v21:=zeroValue21
 t31:=underlying49
 a31:=isAgg49
 z31:=sizeOf49
 v31:=zeroValue49
 t46:=underlying178
 a46:=isAgg178
 z46:=sizeOf178
 v46:=zeroValue178
 t51:=underlying65
 a51:=isAgg65
 z51:=sizeOf65
 v51:=zeroValue65
 t105:=underlying376
 a105:=isAgg376
 z105:=sizeOf376
 v105:=zeroValue376
 t119:=underlying443
 a119:=isAgg443
 z119:=sizeOf443
 t138:=underlying445
 a138:=isAgg445
 z138:=sizeOf445
 v138:=zeroValue445
 t139:=underlying446
 a139:=isAgg446
 z139:=sizeOf446
 v139:=zeroValue446
 t146:=underlying447
 a146:=isAgg447
 z146:=sizeOf447
 v146:=zeroValue447
 g1:=zf
 g3:=zf
 g4:=by kernel_rfl}
open Go.RowKit Go.Lib in
theorem Tryz.strings_Split (s a:ByteArray) (m:Int) (w:qy) (d:s.size<4294967281) (c:w.cell? ⟨0,0,qx⟩=qw (qV qj m)) (b:1<=a.size):
  yC yG 170 #[qW s,qW a] w fun e w'=>
   e=qp (qX (qw ⟨w.heap.size,0,qx⟩) (Lib.countB s a+1) (Lib.countB s a+1))/\w'=w.alloc (qm ((Lib.splitB a 0 (Lib.countB s a) s).map Value.string).toArray 9):=Any.strings_Split qDl zf s a m w d c b
end Go.Proofs
end
namespace Go.Proofs.YtppnakkaljbmbaaGreatDoor
namespace Sm
open Bt Zr Front Sq St Tn Bk
def zAx (x:BitVec 32):qz:=qV .u32 (xD x)
theorem zPv (l:List (BitVec 32)):∀u∈l.map zAx,u.oneCell'=yD:=by
 intro u a;obtain⟨x,_,rfl⟩:=qQf.1 a;rfl
theorem zUb (a:Option yB) (n c:Nat) (l:List (BitVec 32)) (w:qy) (o:kG l=n) (u:n<=100000) (h:yZ w a (l.map zAx)):
  yC yG 131 #[qX a n c] w fun e w'=>e=qp (qV .u32 (xD (l.foldl xq 0#32)))/\w'=w:=by
 obtain⟨q,j,p⟩:=yR h o (fun(a b:BitVec 32) (w:qy)=>Crc.qA2 a b w);clear h o;go_enter func131,ntmps131;go_wp2;go_loopw [2,7] (fun t iv wr=>∃k:Nat,k<=n/\iv=qV qj k/\t=qV .u32 (xD ((l.take k).foldl xq 0#32))/\wr=w) (fun _ iv _=>n-(intOf iv).toNat)
 case atStart=>exact⟨0,za,rfl,by rw[qTp];show Value.int .u32 0=qV .u32 (xD 0#32);unfold xD;rfl,rfl⟩
 case round=>
  obtain⟨k,y,rfl,rfl,rfl⟩:=hrel;by_cases f:k<n
  ·have d:k<kG l:=by rw[j.out];exact f
   obtain⟨x,i⟩:=zB (l[k]);obtain⟨g,off,rfl,r⟩:=q.out k (zAx x) (by rw[qP2,qPu d,i];rfl);have m:=yP ((l.take (k+1)).foldl xq 0#32=xq ((l.take k).foldl xq 0#32) x) (by rw[qQo d,i,qTe];rfl);obtain⟨s,h⟩:=zB ((l.take k).foldl xq 0#32);rw[h]at m⊢;unfold zAx at r;clear i h;go_wp2_with fail;(with_reducible refine(p.out s x _).mono ?_);rintro e z ⟨rfl,rfl⟩;go_wp2;go_roundw
   case rel=>exact⟨k+1,za,by go_num,by rw[m.out],trivial⟩
   case measure=>simp only[intOf];omega
  ·obtain rfl:k=n:=za
   go_wp2;go_ret;exact⟨by rw[qQg (by rw[j.out];exact qPq _)];rfl,rfl⟩
abbrev TSr:yA:=316
def SR (w:qy) (K:Nat) (a:ByteArray) (i:Nat) (p:Option yB) (n c:Nat):Prop:=w.heap[K]? =qw (qm #[qW a,qV qj (i:Int),qX p n c] TSr)
section
variable {w w':qy} {K i n c:Nat} {a:ByteArray} {p:Option yB}
theorem SR.lt (h:SR w K a i p n c):K<w.heap.size:=zAd h
theorem SR.keep (h:SR w K a i p n c) (e:w'.heap[K]? =w.heap[K]?):SR w' K a i p n c:=e.trans h
theorem SR.below (h:SR w K a i p n c) (b:yI w.heap.size w w'):SR w' K a i p n c:=h.keep (b.block K h.lt)
theorem SR.c0 (h:SR w K a i p n c):w.cell? ⟨K,0,qx⟩=qw (qW a):=by unfold SR at h;simp[yM,h]
theorem SR.c1 (h:SR w K a i p n c):w.cell? ⟨K,1,qx⟩=qw (qV qj (i:Int)):=by unfold SR at h;simp[yM,h]
theorem SR.c2 (h:SR w K a i p n c):w.cell? ⟨K,2,qx⟩=qw (qX p n c):=by unfold SR at h;simp[yM,h]
theorem SR.fr (h:SR w K a i p n c) (j:Nat):w.frozen? ⟨K,j,qx⟩=yE:=by unfold SR at h;simp[World.frozen?,h]
theorem SR.s1 (h:SR w K a i p n c) (j:Nat) {V:Int} (b:V=(j:Int)):SR (w.setCell ⟨K,1,qx⟩ (qV qj V)) K a j p n c:=by
 subst b;unfold SR at*;simp[World.setCell,qQs,h]
theorem SR.s2 (h:SR w K a i p n c) (q:Option yB) (m d:Nat):SR (w.setCell ⟨K,2,qx⟩ (qX q m d)) K a i q m d:=by
 unfold SR at*;simp[World.setCell,qQs,h]
end
theorem qCr {w w':qy} {K:Nat} {p:Option yB} {xs:List qz} (h:yZ w p xs) (f:Upd w w' K) (hne:∀q,p=qw q->q.block≠K):yZ w' p xs:=by
 intro j u e;obtain⟨b,a,c,d⟩:=h j u e;exact⟨b,a,c,(zQ2 (f.old b (qQk d) (hne _ c))).trans d⟩
theorem zFr (K i n c r:Nat) (a:ByteArray) (p:Option yB) (o:List T) (w:qy) (h:SR w K a i p n c) (hs:a.size<=100000000) (I:kG o=n) (O:n<=100000) (y:yZ w p ((o.map yu).map zAx)) (hne:∀q,p=qw q->q.block≠K) (G:At a i (zF o)) (x:(8-(i+80)%8)%8=r) (z:i+80+r=8*a.size) (L:val (take a (i+80) r)=0):
  yC yG 246 #[qY (qw ⟨K,0,qx⟩)] w fun e w'=>e=qp (qV qj 0)/\SR w' K a (8*a.size) p n c/\Upd w w' K:=by
 have g:=Bk.At.right G (j:=i+48) (by rw[zAc]);have l:=Bk.At.bound g;rw[zAc]at l;have k:=zH (fun W=>(zB7 a (i+48) 32 za za za W).mono (fun _ _ h=>(⟨h.1,h.2.symm⟩:_/\_)));rw[At.val g (by exact(zVr o).isLt)]at k;have f:=zH (fun W=>(zB7 a (i+80) r za za za W).mono (fun _ _ h=>(⟨h.1,h.2.symm⟩:_/\_)));rw[L,show((0:Nat):Int)=0 from rfl]at f;obtain⟨S,t⟩:=zB (zVr o);rw[t]at k;have a0:=S.isLt;obtain⟨q,u,a1⟩:∃q:Nat,(i+80)%8=q/\q<8:=⟨_,rfl,za⟩;rw[u]at x;have t1:((i:Int)+80).tmod 8=(q:Int):=by rw[qSd za];omega
 have t2:(8-(q:Int)).tmod 8=(r:Int):=by rw[qSd za];omega
 have i0:IntKind.i64.wrap ((i:Int)+48)=(i:Int)+48:=qQb _ ⟨za,za⟩;have i1:IntKind.i64.wrap ((i:Int)+80)=(i:Int)+80:=qQb _ ⟨za,za⟩;have i2:IntKind.i64.wrap (8-(q:Int))=8-(q:Int):=qQb _ ⟨za,za⟩;have i3:IntKind.i64.wrap ((i:Int)+80+(r:Int))=(i:Int)+80+(r:Int):=qQb _ ⟨za,za⟩;have i4:IntKind.u32.wrap (S.toNat:Int)=xD S:=by rw[IntWalk.u32_in _ ⟨za,za⟩];unfold xD;rfl
 have m:=zH (fun(W:qy) (X:Upd w W K)=>show yC yG 131 #[qX p n c] W fun e w'=>e=qp (qV .u32 (xD S))/\w'=W from by
  have h:=zUb p n c (o.map yu) W (by rw[qQi,I]) O (qCr y X hne);rw[show(o.map yu).foldl xq 0#32=S from t]at h;exact h)
 have Y:=h.c0;have Z:=h.c1;have x2:=h.c2;have V:=h.fr 1;obtain⟨H,R⟩:=yQ h (yO x (yO z u));clear h G g l x z L u t y I;go_enter func246,ntmps246;go_wp2;go_quiet ((go_at_call 32;exact Calls.quiet_of_same (k.out _)));go_wp2;obtain⟨w2,d⟩:=zB ((w.drewN nq).setCell ⟨K,1,qx⟩ (qV qj ((i:Int)+80)));have s:=yP (SR w2 K a (i+80) p n c) (by rw[<-d];exact SR.s1 (show SR (w.drewN nq) K a i p n c from H.out) (i+80) za);have B:=yP (Upd w w2 K) (by rw[<-d];exact(show Upd w (w.drewN nq) K from⟨fun _ _ _=>rfl,⟨rfl,rfl,rfl,qPq _,fun _ _=>rfl⟩⟩).trans Upd.set);have y0:=s.out.c0;have N:=s.out.c1;have y2:=s.out.c2;have g1:=s.out.fr 1;rw[d];rw[show((i+80:Nat):Int)=(i:Int)+80 by omega]at N f;clear Y Z x2 V d H;go_quiet ((go_at_call 32;exact Calls.quiet_of_same (f.out _)));go_wp2_with fail;obtain⟨M,b⟩:=zB ((w2.drewN nq).setCell ⟨K,1,qx⟩ (qV qj ((i:Int)+80+(r:Int))));have P:=yP (SR M K a (8*a.size) p n c) (by rw[<-b];exact SR.s1 (show SR (w2.drewN nq) K a (i+80) p n c from s.out) (8*a.size) (by have:=R.out.2.1;omega));have F:=yP (Upd w M K) (by rw[<-b];exact B.out.trans ((show Upd w2 (w2.drewN nq) K from⟨fun _ _ _=>rfl,⟨rfl,rfl,rfl,qPq _,fun _ _=>rfl⟩⟩).trans Upd.set));rw[b];clear b y0 N y2 g1 s B;(with_reducible refine(m.out _ F.out).mono ?_);rintro e w5 ⟨rfl,rfl⟩;go_wp2;go_ret;exact⟨rfl,P.out,F.out⟩
end Sm
namespace Sm
open Bt Front
variable {a:ByteArray} {lev:Nat}
def Hd (a:ByteArray) (lev:Nat):Prop:=∀k,k<4->a.data.toList[k]? =qw (([80,77,107,UInt8.ofNat (48+lev)]:T).getD k 0)
theorem extract_all (a:ByteArray):a.extract 0 a.size=a:=by
 apply ByteArray.ext;simp
theorem Hd.size (h:Hd a lev):4<=a.size:=by
 have b:=h 3 za;rcases qP8 3 (kG a.data.toList) with c|c
 ·have:kG a.data.toList=a.size:=by simp
  omega
 ·rw[qQp c]at b;cases b
theorem Hd.digit (h:Hd a lev) (f:lev<10) (d:3<a.size):(a[3].toNat:Int)=48+(lev:Int):=by
 have b:=h 3 za;have c:a.data.toList[3]? =qw a[3]:=by
  rw[List.getElem?_eq_getElem (by simpa using d)];rfl
 rw[c]at b;have e:=qPv b;rw[e];show((UInt8.ofNat (48+lev)).toNat:Int)=_;rw[ofNat_toNat za];omega
theorem Hd.pre (h:Hd a lev):Lib.hasPrefix a.data.toList [80,77,107]=yD:=by
 have b:=h 0 za;have c:=h 1 za;have d:=h 2 za
 match hl:a.data.toList with
 |[]=>rw[hl]at b;cases b
 |[x]=>rw[hl]at c;cases c
 |[x,y]=>rw[hl]at d;cases d
 |x::y::z::l=>
  rw[hl]at b c d;have e:x=80:=qPv b;have f:y=77:=qPv c;have g:z=107:=qPv d;subst e f g;simp[Lib.hasPrefix]
theorem zZm (a:ByteArray) (lev:Nat) (k:a.size<=100000000) (g:1<=lev) (j:lev<=9) (h:Hd a lev) (w:qy):
  yC yG 245 #[qW a,qV qj 0] w fun e w'=>e=qp (qZ #[qV qj ((40*lev:Nat):Int),qV qj 0])/\w'=w:=by
 have i:=h.size;have hd:=h.digit za za;have l:=extract_all a;obtain⟨d,b⟩:∃d:UInt8,a[3]=d:=⟨_,rfl⟩;rw[b]at hd;have f:=yP (yC yG 283 #[qW a,qW ⟨#[80,77,107]⟩] w fun e w'=>e=qp (qc yD)/\w'=w) (by
  have c:=strings_HasPrefix a ⟨#[80,77,107]⟩ w;rw[show(⟨#[80,77,107]⟩:ByteArray).data.toList=[80,77,107]from rfl,h.pre]at c;exact c)
 clear h;go_enter func245,ntmps245;go_wp2_with fail;(with_reducible refine f.out.mono ?_);rintro e o ⟨rfl,rfl⟩;have m:¬(d.toNat:Int)<49:=za
 have n:¬(57:Int)<(d.toNat:Int):=za
 go_wp2;go_ret2;refine⟨?_,rfl⟩;rw[show((40*lev:Nat):Int)=40*(48+(lev:Int)-48)by omega];rfl
end Sm
end Go.Proofs.YtppnakkaljbmbaaGreatDoor
