/- Steps of a proof; no condition beyond what each states. -/
import Derived.Test.YtppnakkaljbmbaaGreatDoorZX00
import Derived.Test.YtppnakkaljbmbaaGreatDoorZX18
set_option linter.unusedVariables false
set_option linter.unusedSimpArgs false
set_option maxRecDepth 100000
set_option maxHeartbeats 8000000
open List renaming length->kG
open Go.Proofs.YtppnakkaljbmbaaGreatDoor.Kit renaming Src->yZ,Own->yg,Own'->yj,zAr->xA,zBc->xR,zDa->xV,zFb->kE
open Go.RowKit
open Go.Proofs.Tryz
open Go.Value renaming int->qV,string->qW,slice->qX,pointer->qY,tuple->qZ
open Go.IntKind renaming i64->qj
open Go.Obj renaming cells->qm
open Go.Ending renaming returned->qp
open Option renaming some->qw,none->qx
open Go renaming World->qy,Value->qz,TypeId->yA,Addr->yB,Calls->yC
open Bool renaming true->yD,false->yE
open Go.Proofs.Tryz renaming prog->yG
open Go.RowKit renaming Hid->yH,Below->yI
open List renaming range->yK
open Go.World renaming cell?->yM
open Go.RowKit.Below renaming refl->yN
namespace Go.Proofs.YtppnakkaljbmbaaGreatDoor
namespace Bk
open Bt Zr Front Ch Sl
variable {w w':qy} {R n c:Nat} {a:Option yB} {ls:List (List Bool)}
abbrev TB_:yA:=51
abbrev zB5:yA:=70
abbrev TW:yA:=138
structure BW (w:qy) (R:Nat) (a:Option yB) (n c:Nat) (ls:List (List Bool)):Prop where
 blk:w.heap[R]? =qw (qm #[qX a n c] TW)
 own:yj LB w (R+1) TB_ a n c ls
theorem BW.lt (h:BW w R a n c ls):R<w.heap.size:=zAd h.blk
theorem BW.below {D:Nat} (h:BW w R a n c ls) (b:yI D w w') (d:D=w.heap.size):BW w' R a n c ls:=by
 subst d;exact⟨(b.block R h.lt).trans h.blk,h.own.below b (qPq _)⟩
theorem BW.drew (h:BW w R a n c ls):BW w.drew R a n c ls:=⟨h.blk,h.own⟩
structure StB (w w':qy) (R:Nat):Prop where
 old:∀k,k<w.heap.size->k≠R->(∀cs f,w.heap[k]?≠qw (qm cs TB_ f))->w'.heap[k]? =w.heap[k]?
 below:yI R w w'
theorem StB.refl (w:qy) (R:Nat):StB w w R:=⟨fun k _ _ _=>rfl,yN _ _⟩
theorem StB.trans {b:qy} (h:StB w w' R) (g:StB w' b R):StB w b R:=by
 refine⟨fun k d e i=> ?_,h.below.trans g.below⟩;have j:=h.old k d e i;rw[g.old k (qQv d h.below.size) e (fun l f=>by rw[j];exact i l f),j]
theorem StB.of_below (b:yI w.heap.size w w') (e:R<=w.heap.size):StB w w' R:=⟨fun k d _ _=>b.block k d,b.mono e⟩
theorem StB.size (h:StB w w' R):w.heap.size<=w'.heap.size:=h.below.size
theorem zT8 {B:Nat} {e t:yA} {l:List (List Bool)} {j:Array qz} {f:Nat×Nat} (h:yj LB w B e a n c l) (k:w.heap[R]? =qw (qm j t f)) (m:t≠e):
  (Value.slice a n c).ownBlock≠qw R:=by
 intro i;obtain⟨_,d⟩:=h;rcases d with⟨d,_⟩|⟨g,o,p,hv,q,b,_⟩
 ·injection d with d _ _
  subst d;simp[Value.ownBlock]at i
 ·injection hv with ha _ hc
  subst ha;simp[Value.ownBlock]at i;subst i;rw[k]at b;injection b with b
  injection b with _ b _
  exact m b
theorem BW.push (h:BW w R a n c ls) (x:List Bool) (G:n<=100000):
  ∃a' c' w',(Builtin.append_ #[zB5,zB5] zB5 #[qX a n c,qX (qw ⟨w.heap.size,0,qx⟩) 1 1]).run yG (w.alloc (qm (LB.cl x).toArray TB_))= .ok (qX a' (n+1) c') w'/\
   w'.heap[R]? =qw (qm #[qX a n c] TW)/\BW (w'.setCell ⟨R,0,qx⟩ (qX a' (n+1) c')) R a' (n+1) c' (ls++[x])/\StB w (w'.setCell ⟨R,0,qx⟩ (qX a' (n+1) c')) R:=by
 have z:Kit.Rd LB (w.alloc (qm (LB.cl x).toArray TB_)) (qw ⟨w.heap.size,0,qx⟩) [x]:=Kit.zFo w x TB_;have l:yj LB (w.alloc (qm (LB.cl x).toArray TB_)) (R+1) TB_ a n c ls:=h.own.alloc _;have o:=h.lt;obtain⟨a',c',w',q,m,i⟩:=l.app (ty:=zB5) zPo (qw ⟨w.heap.size,0,qx⟩) 1 1 [x] z rfl (fun h=>by cases h) (by unfold maxLen;omega) za (by rw[zA];omega);have j:yI w.heap.size w (w.alloc (qm (LB.cl x).toArray TB_)):=(yN _ _).alloc (qPq _) _;have b:(w.alloc (qm (LB.cl x).toArray TB_)).heap[R]? =qw (qm #[qX a n c] TW):=(j.block R o).trans h.blk;have hne:=zT8 l b z8;have d:w'.heap[R]? =qw (qm #[qX a n c] TW):=(i.block R (zAd b) (fun e=>hne e.symm)).trans b;refine⟨a',c',w',q,d,⟨?_,?_⟩,⟨fun k r s t=> ?_,?_⟩⟩
 ·simp[World.setCell,qQs,d]
 ·exact qRy m (zB1 w' R 0 _) (.inr (zT8 m d z8))
 ·rw[zAa s];refine(i.block k (by rw[zA];omega) (fun e=> ?_)).trans (j.block k r);obtain⟨_,f⟩:=h.own;rcases f with⟨f,_⟩|⟨g,B,F,hv,_,u,_⟩
  ·injection f with f _ _
   subst f;simp[Value.ownBlock]at e
  ·injection hv with ha _ _
   subst ha;simp[Value.ownBlock]at e;subst e;exact t _ _ u
 ·refine((j.mono (qP6 o)).trans (Kit.zAq i (by rw[zA];omega) (fun k y=> ?_))).setCell (p:=⟨R,0,qx⟩) (qPq _) _;have:=l.block k y;omega
theorem BW.one {W:qy} {P:Nat} (h:BW W R a n c ls) (x:List Bool) (k:n<=100000) (e:W.heap[P]? =qw (qm (LB.cl x).toArray TB_)):
  ∃d c1 b w2,(loadVar zB5 ⟨R,0,qx⟩).run yG W.drew= .ok (qX a n c) W.drew/\
   (loadVar zB5 ⟨R,0,qx⟩).run yG (W.drew.alloc (qm (LB.cl x).toArray TB_))= .ok (qX a n c) (W.drew.alloc (qm (LB.cl x).toArray TB_))/\
   (loadVar TB_ ⟨P,0,qx⟩).run yG W.drew= .ok (zAe x) W.drew/\
   (Builtin.append_ #[zB5,zB5] zB5 #[qX a n c,qX (qw ⟨W.drew.heap.size,0,qx⟩) 1 1]).run yG (W.drew.alloc (qm (LB.cl x).toArray TB_))= .ok (qX d (n+1) c1) b/\
   (storeVar zB5 ⟨R,0,qx⟩ (qX d (n+1) c1)).run yG b= .ok () w2/\BW w2 R d (n+1) c1 (ls++[x])/\StB W w2 R:=by
 obtain⟨d,c1,b,m,g,l,o⟩:=h.drew.push x k;have j:W.drew.cell? ⟨R,0,qx⟩=qw (qX a n c):=by simp[yM,show W.drew.heap[R]? =_ from h.blk]
 have p:b.cell? ⟨R,0,qx⟩=qw (qX a n c):=by simp[yM,g]
 have y2:b.frozen? ⟨R,0,qx⟩=yE:=by simp[World.frozen?,g]
 have f:=h.lt;refine⟨d,c1,b,_,Kit.zAg j zf zf,Kit.zAg ((World.cell?_alloc_lt _ _ _ (by show R<_;exact f)).trans j) zf zf,?_,m,Kit.zDs p y2 zf rfl rfl,l,?_⟩
 ·refine Kit.zHe (L:=LB) (x:=x) (fun i hi=> ?_) (fun w=>zf) (fun w=>zf);have q:i<2:=hi;obtain rfl|rfl:i=0\/i=1:=za
  ·simp[yM,show W.drew.heap[P]? =_ from e]
  ·simp[yM,show W.drew.heap[P]? =_ from e]
 ·exact(StB.of_below (w':=W.drew) (yN _ _).drew (qP6 f)).trans o
theorem zHk (R:Nat) (a:Option yB) (n c:Nat) (ls:List (List Bool)) (x:List Bool) (e:Int) (w:qy) (h:BW w R a n c ls) (z:n<=100000):
  yC yG 72 #[qY (qw ⟨R,0,qx⟩),zAe x,qV qj e] w fun e w'=>e=qp (qZ #[])/\∃a' c',BW w' R a' (n+1) c' (ls++[x])/\StB w w' R:=by
 obtain⟨P,g⟩:=zB w.heap.size;obtain⟨W,i⟩:=zB (w.alloc (qm (LB.cl x).toArray TB_));have j:yI P w W:=by rw[<-i,<-g];exact(yN _ _).alloc (qPq _) _
 have o:W.heap[P]? =qw (qm (LB.cl x).toArray TB_):=by rw[<-i,<-g];exact zAh w _
 obtain⟨u,c1,F,w2,l0,l2,ld,l,b,k,m⟩:=(h.below j g.symm).one x z o;have B:R<P:=by rw[<-g];exact h.lt
 obtain⟨L0,t,LD,d,f,q,r,s,p⟩:=yY l0 l2 ld l b k ((StB.of_below (g▸j) za).trans m) i g;clear h j o l0 l2 ld l b k m i g;unfold zAe at*;go_enter func72,ntmps72;go_wp2;rw[p.out,show w.alloc (qm #[qW (pk x),qV qj (kG x:Int)] TB_)=W from s.out];refine zS [7,10] (fun W'=>(loadVar 70 ⟨R,0,qx⟩).run yG W'= .ok (qX a n c) W') [0,0,2,4,8,0,32,80,255,511,767] 11<|zu 0 6 (zP R 0)<|zu 1 7 (zP R 0)<|zu 2 8 (zP R 0)<|zu 3 9 (zP R 0)<|zy 4 10 (qX a n c) (fun w y=>zl 70 9 (y)) L0.out<|zp [5]<|zt 11 (.agg #[qW (pk x),qV qj (kG x:Int)]) (zl 51 4 (LD.out))<|zn<| ?_
 refine Kit.zLe (w':=W.drew.alloc (qm (LB.cl x).toArray TB_)) 6 (qw 12) (qX (qw ⟨W.drew.heap.size,0,qx⟩) 1 1) 127 zf zf rfl rfl zf zf (.inr (.inr (t.out))) ?_;refine zo 7 13 (qX u (n+1) c1) (Kit.zHb (.tmp 10) (.tmp 12) 70 rfl zf zf d.out) (.inr (.inl zf))<|zp [8,9]<|zk 14 (zP R 0)<|zk 15 (zP R 0)<|zn<|zw 10 qx (zr 70 15 13 (f.out)) (.inr (.inl zf))<|zE<| ?_
 simp only[zP,zI,Act.put,qPz,qPy,qP0];go_wp2;go_end0;exact⟨rfl,_,_,q.out,r.out⟩
theorem zSd (R:Nat) (a:Option yB) (n c:Nat) (ls:List (List Bool)) (v k:Nat) (w:qy) (h:BW w R a n c ls) (O:n<=100000) (hv:v<18446744073709551616) (u:k<=64):
  yC yG 71 #[qY (qw ⟨R,0,qx⟩),qV .u64 (v:Int),qV qj (k:Int)] w fun e w'=>e=qp (qZ #[])/\∃a' c',BW w' R a' (n+1) c' (ls++[num v k])/\StB w w' R:=by
 have j:=zJo [] v k w hv u zq;have b:=zH j;obtain⟨x,t⟩:=zB (num v k);rw[qQl,t]at b;rw[t];have H:=zH h;have g:zAe []= .agg #[qW ⟨#[]⟩,qV qj 0]:=rfl;rw[g]at b;unfold zAe at b;clear j h t hv u g;go_enter func71,ntmps71;go_wp2_with fail;(with_reducible refine b.out.mono ?_);rintro e p ⟨rfl,d⟩;obtain⟨P,o⟩:=zB p.heap.size;obtain⟨W,q⟩:=zB (p.alloc (qm (LB.cl x).toArray TB_));have s:yI P p W:=by rw[<-q,<-o];exact(yN _ _).alloc (qPq _) _
 have i:W.heap[P]? =qw (qm (LB.cl x).toArray TB_):=by rw[<-q,<-o];exact zAh p _
 have r:=H.out.below d rfl;obtain⟨M,c1,X,w2,l0,l2,ld,z,f,y,B⟩:=(r.below s o.symm).one x O i;have S:R<P:=by rw[<-o];exact r.lt
 have V:=H.out.lt;obtain⟨L0,L,LD,l,m,G,I,K,F⟩:=yY l0 l2 ld z f y ((StB.of_below d za).trans ((StB.of_below (o▸s) za).trans B)) q o;clear s d r i l0 l2 ld z f y B q o b H;unfold zAe at LD;go_wp2;rw[F.out,show p.alloc (qm #[qW (pk x),qV qj (kG x:Int)] TB_)=W from K.out];refine zS [7,10] (fun W'=>(loadVar 70 ⟨R,0,qx⟩).run yG W'= .ok (qX a n c) W') [0,0,2,4,8,0,32,80,255,511,767] 11<|zu 0 15 (zP R 0)<|zu 1 16 (zP R 0)<|zu 2 17 (zP R 0)<|zu 3 18 (zP R 0)<|zy 4 19 (qX a n c) (fun w N=>zl 70 18 (N)) L0.out<|zp [5]<|zt 20 (.agg #[qW (pk x),qV qj (kG x:Int)]) (zl 51 6 (LD.out))<|zn<| ?_
 refine Kit.zLe (w':=W.drew.alloc (qm (LB.cl x).toArray TB_)) 6 (qw 21) (qX (qw ⟨W.drew.heap.size,0,qx⟩) 1 1) 127 zf zf rfl rfl zf zf (.inr (.inr (L.out))) ?_;refine zo 7 22 (qX M (n+1) c1) (Kit.zHb (.tmp 19) (.tmp 21) 70 rfl zf zf l.out) (.inr (.inl zf))<|zp [8,9]<|zk 23 (zP R 0)<|zk 24 (zP R 0)<|zn<|zw 10 qx (zr 70 24 22 (m.out)) (.inr (.inl zf))<|zE<| ?_
 simp only[zP,zI,Act.put,qPz,qPy,qP0];go_wp2;go_end0;exact⟨rfl,_,_,G.out,I.out⟩
end Bk
namespace Ch
open Front Bt Zr Hf Wg
theorem three (W:qy) (E:Nat) (e:W.heap.size=E) (a b c:Obj):(((W.alloc a).alloc b).alloc c).heap[E]? =qw a/\(((W.alloc a).alloc b).alloc c).heap[E+1]? =qw b/\(((W.alloc a).alloc b).alloc c).heap[E+2]? =qw c/\yI E W (((W.alloc a).alloc b).alloc c):=by
 subst e;have f:yI (W.heap.size+1) (W.alloc a) ((W.alloc a).alloc b):=(yN _ _).alloc (by rw[zA];exact qPq _) _;have d:yI (W.heap.size+2) ((W.alloc a).alloc b) (((W.alloc a).alloc b).alloc c):=(yN _ _).alloc (by rw[zA,zA];exact qPq _) _;refine⟨?_,?_,?_,(((yN _ _).alloc (qPq _) _).alloc (by rw[zA];omega) _).alloc (by rw[zA,zA];omega) _⟩
 ·exact(d.block _ za).trans ((f.block _ za).trans (zAh W a))
 ·have h:=zAh (W.alloc a) b;rw[zA]at h;exact(d.block _ za).trans h
 ·have h:=zAh ((W.alloc a).alloc b) c;rw[zA,zA]at h;exact h
theorem zZ6 {w:qy} {D:Nat} {p:Option yB} {j c:Nat} {l:List Nat} (h:yg w D 3 p j c (l.map ival)) (x:Nat) (m:j<=1000000) (f:D<=w.heap.size):
  ∃e c' w',(Builtin.append_ #[23,23] 23 #[qX p j c,qX (qw ⟨w.heap.size,0,qx⟩) 1 1]).run yG (w.alloc (qm #[qV qj (x:Int)] 3))= .ok (qX e (j+1) c') w'/\
   yg w' D 3 e (j+1) c' ((l++[x]).map ival)/\yI D w w':=by
 obtain⟨i,c3,k,a,d,b⟩:=Kit.Own.app (ty:=23) (w:=w.alloc (qm #[qV qj (x:Int)] 3)) zFn (h.alloc _) (qw ⟨w.heap.size,0,qx⟩) 1 1 [ival x] (Kit.zAs w _ 3) rfl (fun h=>by cases h) (zDr [x]) (by unfold maxLen;omega) za zq;refine⟨i,c3,k,a,by rw[qQd];exact d,?_⟩;exact((yN _ _).alloc f _).trans ((yN _ _).grown b zq (fun q g=>h.block q g))
theorem zL0 (m:List Nat) (n:Nat) (a:Option yB) (k c:Nat) (w:qy) (hk:kG m=k) (co:k<=c) (h1:1<=k) (ay:k<=10000) (h2:2<=n) (ax:n<=258) (hs:yZ w a (m.map ival)) (hm:∀s∈m,s<n) (ha:∀p,a=qw p->p.block<w.heap.size):
  yC yG 23 #[qX a k c,qV qj (n:Int)] w fun e w'=>∃p cp q cq G0 G1,e=qp (qZ #[qX p 2 cp,qX q (kG (grp m)) cq,qV qj 0])/\
   yZ w' p [qX (qw ⟨G0,0,qx⟩) n n,qX (qw ⟨G1,0,qx⟩) n n]/\yZ w' (qw ⟨G0,0,qx⟩) ((tb m n 0).map ival)/\yZ w' (qw ⟨G1,0,qx⟩) ((tb m n 1).map ival)/\yZ w' q ((chosen m n).map ival)/\yI w.heap.size w w':=by
 obtain⟨B,hB⟩:=zB w.heap.size;have HO:=zH (zTr m a k c n w hk za hs hm);have j1:decide ((n:Int)<2)=yE:=qP1 za;have j2:decide ((258:Int)<(n:Int))=yE:=qP1 za;have j3:((k:Int)==0)=yE:=by rw[qSc];omega
 have j4:decide ((1048576:Int)<(k:Int))=yE:=qP1 za;obtain⟨HS,HM,HK,HA,a9⟩:=yT hs hm hk ha hB;clear hs hm hk ha;rw[hB];go_enter func23,ntmps23;go_wp2_with fail;(with_reducible refine HO.out.mono ?_);rintro e w2 ⟨rfl,a6⟩;rw[hB]at a6;have B2:=zH a6;obtain⟨E,hE⟩:=zB w2.drew.heap.size;have R:B<=E:=by rw[<-hE];exact qP4 (by rw[<-hB];exact qPq _) a6.size
 have HE:=zH hE;clear a6 HO hB hE j1 j2 j3 j4;go_upto_region 5 with fail;go_cut [7] (fun s7 wx=>∃x y z,s7=qY (qw ⟨z,0,qx⟩)/\yH (We B w m n 0 x y z wx))
 case first=>
  refine zS [] (fun _=>True) [0,1,0,4,10,0,63] 7<|zu 0 45 (zI n)<|zu 2 47 (zI n)<| ?_
  refine Kit.qEr 1 3 5 zf ?_ ?_ ?_
  ·
   refine kE (qw 46) (qX (qw ⟨E,0,qx⟩) n n) 7 zf rfl rfl zf (zEr (x:= .tmp 45) (y:= .tmp 45) (n:=n) za rfl zf zf (by rw[HE.out]) rfl) (.inr (.inr trivial)) ?_;refine Kit.zY4 3 5 zf ?_ ?_
   ·
    refine kE (qw 48) (qX (qw ⟨E+1,0,qx⟩) n n) 15 zf rfl rfl zf (zEr (x:= .tmp 47) (y:= .tmp 47) (n:=n) za rfl zf zf (by rw[zA,HE.out]) rfl) (.inr (.inr trivial)) ?_;refine zu 4 49 (.agg #[qX (qw ⟨E,0,qx⟩) n n,qX (qw ⟨E+1,0,qx⟩) n n])<|zo 5 7 (qY (qw ⟨E+2,0,qx⟩)) (xV (w2:=((w2.drew.alloc (zi n)).alloc (zi n)).alloc z2) zf (by rw[zA,zA,HE.out]) rfl) (.inr (.inr trivial))<|zw 6 qx (zr 162 7 49 (zG8 (n:=n) (x:=E) (y:=E+1) (z:=E+2) (three w2.drew E HE.out (zi n) (zi n) z2).2.2.1)) (.inr (.inr trivial))<|zE<| ?_
    simp only[zP,zI,Act.put,qPz,qPy,qP0];go_wp2;go_meet;obtain⟨q0,q1,q2,qb⟩:=three w2.drew E HE.out (zi n) (zi n) z2;exact⟨E,E+1,E+2,rfl,zH (We.start m (B2.out.drew.trans (qb.mono R)) q0 q1 q2 za za za za)⟩
   ·
    refine kE (qw 7) (qY (qw ⟨E+1,0,qx⟩)) 39 zf rfl rfl zf (xV (w2:=(w2.drew.alloc (zi n)).alloc z2) zf (by rw[zA,HE.out]) rfl) (.inr (.inr trivial)) ?_;refine zo 3 48 (qX (qw ⟨E+2,0,qx⟩) n n) (zEr (x:= .tmp 47) (y:= .tmp 47) (n:=n) za rfl zf zf (by rw[zA,zA,HE.out]) rfl) (.inr (.inr trivial))<|zu 4 49 (.agg #[qX (qw ⟨E,0,qx⟩) n n,qX (qw ⟨E+2,0,qx⟩) n n])<|zw 6 qx (zr 162 7 49 (zG8 (n:=n) (x:=E) (y:=E+2) (z:=E+1) (three w2.drew E HE.out (zi n) z2 (zi n)).2.1)) (.inr (.inr trivial))<|zE<| ?_
    simp only[zP,zI,Act.put,qPz,qPy,qP0];go_wp2;go_meet;obtain⟨q0,q1,q2,qb⟩:=three w2.drew E HE.out (zi n) z2 (zi n);exact⟨E,E+2,E+1,rfl,zH (We.start m (B2.out.drew.trans (qb.mono R)) q0 q2 q1 za za za za)⟩
  ·
   refine kE (qw 48) (qX (qw ⟨E,0,qx⟩) n n) 13 zf rfl rfl zf (zEr (x:= .tmp 47) (y:= .tmp 47) (n:=n) za rfl zf zf (by rw[HE.out]) rfl) (.inr (.inr trivial)) ?_;refine Kit.zY4 1 5 zf ?_ ?_
   ·
    refine kE (qw 46) (qX (qw ⟨E+1,0,qx⟩) n n) 15 zf rfl rfl zf (zEr (x:= .tmp 45) (y:= .tmp 45) (n:=n) za rfl zf zf (by rw[zA,HE.out]) rfl) (.inr (.inr trivial)) ?_;refine zu 4 49 (.agg #[qX (qw ⟨E+1,0,qx⟩) n n,qX (qw ⟨E,0,qx⟩) n n])<|zo 5 7 (qY (qw ⟨E+2,0,qx⟩)) (xV (w2:=((w2.drew.alloc (zi n)).alloc (zi n)).alloc z2) zf (by rw[zA,zA,HE.out]) rfl) (.inr (.inr trivial))<|zw 6 qx (zr 162 7 49 (zG8 (n:=n) (x:=E+1) (y:=E) (z:=E+2) (three w2.drew E HE.out (zi n) (zi n) z2).2.2.1)) (.inr (.inr trivial))<|zE<| ?_
    simp only[zP,zI,Act.put,qPz,qPy,qP0];go_wp2;go_meet;obtain⟨q0,q1,q2,qb⟩:=three w2.drew E HE.out (zi n) (zi n) z2;exact⟨E+1,E,E+2,rfl,zH (We.start m (B2.out.drew.trans (qb.mono R)) q1 q0 q2 za za za za)⟩
   ·
    refine kE (qw 7) (qY (qw ⟨E+1,0,qx⟩)) 45 zf rfl rfl zf (xV (w2:=(w2.drew.alloc (zi n)).alloc z2) zf (by rw[zA,HE.out]) rfl) (.inr (.inr trivial)) ?_;refine zo 1 46 (qX (qw ⟨E+2,0,qx⟩) n n) (zEr (x:= .tmp 45) (y:= .tmp 45) (n:=n) za rfl zf zf (by rw[zA,zA,HE.out]) rfl) (.inr (.inr trivial))<|zu 4 49 (.agg #[qX (qw ⟨E+2,0,qx⟩) n n,qX (qw ⟨E,0,qx⟩) n n])<|zw 6 qx (zr 162 7 49 (zG8 (n:=n) (x:=E+2) (y:=E) (z:=E+1) (three w2.drew E HE.out (zi n) z2 (zi n)).2.1)) (.inr (.inr trivial))<|zE<| ?_
    simp only[zP,zI,Act.put,qPz,qPy,qP0];go_wp2;go_meet;obtain⟨q0,q1,q2,qb⟩:=three w2.drew E HE.out (zi n) z2 (zi n);exact⟨E+2,E,E+1,rfl,zH (We.start m (B2.out.drew.trans (qb.mono R)) q2 q0 q1 za za za za)⟩
  ·
   refine kE (qw 7) (qY (qw ⟨E,0,qx⟩)) 37 zf rfl rfl zf (xV (w2:=w2.drew.alloc z2) zf (by rw[HE.out]) rfl) (.inr (.inr trivial)) ?_;refine Kit.zY4 1 3 zf ?_ ?_
   ·
    refine kE (qw 46) (qX (qw ⟨E+1,0,qx⟩) n n) 39 zf rfl rfl zf (zEr (x:= .tmp 45) (y:= .tmp 45) (n:=n) za rfl zf zf (by rw[zA,HE.out]) rfl) (.inr (.inr trivial)) ?_;refine zo 3 48 (qX (qw ⟨E+2,0,qx⟩) n n) (zEr (x:= .tmp 47) (y:= .tmp 47) (n:=n) za rfl zf zf (by rw[zA,zA,HE.out]) rfl) (.inr (.inr trivial))<|zu 4 49 (.agg #[qX (qw ⟨E+1,0,qx⟩) n n,qX (qw ⟨E+2,0,qx⟩) n n])<|zw 6 qx (zr 162 7 49 (zG8 (n:=n) (x:=E+1) (y:=E+2) (z:=E) (three w2.drew E HE.out z2 (zi n) (zi n)).1)) (.inr (.inr trivial))<|zE<| ?_
    simp only[zP,zI,Act.put,qPz,qPy,qP0];go_wp2;go_meet;obtain⟨q0,q1,q2,qb⟩:=three w2.drew E HE.out z2 (zi n) (zi n);exact⟨E+1,E+2,E,rfl,zH (We.start m (B2.out.drew.trans (qb.mono R)) q1 q2 q0 za za za za)⟩
   ·
    refine kE (qw 48) (qX (qw ⟨E+1,0,qx⟩) n n) 45 zf rfl rfl zf (zEr (x:= .tmp 47) (y:= .tmp 47) (n:=n) za rfl zf zf (by rw[zA,HE.out]) rfl) (.inr (.inr trivial)) ?_;refine zo 1 46 (qX (qw ⟨E+2,0,qx⟩) n n) (zEr (x:= .tmp 45) (y:= .tmp 45) (n:=n) za rfl zf zf (by rw[zA,zA,HE.out]) rfl) (.inr (.inr trivial))<|zu 4 49 (.agg #[qX (qw ⟨E+2,0,qx⟩) n n,qX (qw ⟨E+1,0,qx⟩) n n])<|zw 6 qx (zr 162 7 49 (zG8 (n:=n) (x:=E+2) (y:=E+1) (z:=E) (three w2.drew E HE.out z2 (zi n) (zi n)).1)) (.inr (.inr trivial))<|zE<| ?_
    simp only[zP,zI,Act.put,qPz,qPy,qP0];go_wp2;go_meet;obtain⟨q0,q1,q2,qb⟩:=three w2.drew E HE.out z2 (zi n) (zi n);exact⟨E+2,E+1,E,rfl,zH (We.start m (B2.out.drew.trans (qb.mono R)) q2 q1 q0 za za za za)⟩
 case rest=>
  obtain⟨x,y,z,rfl,b⟩:=hcut;have hD:∃D,wc.heap.size=D:=⟨_,rfl⟩;obtain⟨D,hD⟩:=hD;have cu:B<=D:=by rw[<-hD,<-a9.out];exact b.out.below.size
  have d5:x<D:=by rw[<-hD];exact b.out.ax.lt
  have d6:y<D:=by rw[<-hD];exact b.out.ay.lt
  have HG:=zH (zH8 m a k c wc HK.out za co (HS.out.below (by rw[a9.out];exact b.out.below)) (fun p hp=>by
   have h1:=HA.out p hp;rw[a9.out]at h1;omega))
  rw[hD]at HG;go_wp2_with fail;(with_reducible refine HG.out.mono ?_);rintro e w4 ⟨p,cg,vs,rfl,f,bg⟩;have b4:0<kG (grp m):=by rw[zBx,HK.out];omega
  obtain⟨g0,rfl,cw,_⟩:=f.own.at_ b4;obtain⟨GR,WE⟩:=yQ f (b.out.grow (by rw[hD];exact bg));have ad:kG (grp m)=(k+9)/10:=by rw[zBx,HK.out]
  obtain⟨K,hK⟩:=zB (kG (grp m));rw[hK]at GR ad⊢;obtain⟨M,HD⟩:=yQ hK hD;have d0:10*K<=k+9:=za
  have d1:k<=10*K:=za
  have d2:0<K:=za
  clear ad;clear f b bg HG b4 hK hD;go_wp2;go_loopw [54] (fun iv wr=>∃i:Nat,i<=K/\iv=qV qj i/\yH (We B w m n (min (10*i) k) x y z wr)/\yH (Gr wr D (qw ⟨g0,0,qx⟩) K cg vs (grp m))) (fun iv _=>K-(intOf iv).toNat)
  case atStart=>exact⟨0,za,rfl,WE,GR⟩
  case round=>
   clear WE GR;obtain⟨i,hi,rfl,b,f⟩:=hrel;by_cases o:i<K
   ·obtain⟨g,hg⟩:∃g,(grp m)[i]? =qw g:=⟨_,qPu (by rw[M.out];exact o)⟩;obtain⟨G,c',hv,ac,l⟩:=f.out.each i g hg;have aa:g=(m.drop (10*i)).take 10:=by
     have h5:=zJy m i (by rw[HK.out];omega);rw[hg]at h5;exact qPv h5
    have bu:kG g=min 10 (k-10*i):=by rw[aa,qQh,qQn,HK.out]
    obtain⟨L,hL⟩:=zB (kG g);rw[hL]at hv ac bu;have bi:10*i<=k:=za
    rw[qTs bi]at b;have GG:=yP (∀j,j<L->∃s,g[j]? =qw s/\m.getD (10*i+j) 0=s/\s<n) (fun j hj=>by
     have h5:j<kG g:=by rw[hL];exact hj
     have h8:g[j]∈g:=qQ h5;have h7:=qPu h5;obtain⟨s,hs⟩:=zB (g[j]);rw[hs]at h7 h8;have h6:=h7;rw[aa,qUe za,List.getElem?_drop]at h6;exact⟨s,h7,by rw[qPw,h6];rfl,HM.out _ ((zHg (qSt hg)).2.2 _ h8)⟩)
    obtain⟨b8,h,_,_,_,d,_⟩:=f.out.own.at_ za;injection h with h
    injection h with h _ _
    subst h;have x0:=d i o;rw[hv]at x0;obtain⟨HL,HV,cc⟩:=yR hL hv hg;have cr:L<=10:=za
    clear aa d hv hL l hg;go_wp2;clear x0;go_loopw [61] (fun jv wr=>∃j:Nat,j<=L/\jv=qV qj j/\yH (We B w m n (10*i+j) x y z wr)/\yH (Gr wr D (qw ⟨g0,0,qx⟩) K cg vs (grp m))) (fun jv _=>L-(intOf jv).toNat)
    case atStart=>exact⟨0,za,rfl,b,f⟩
    case round=>
     clear b f;obtain⟨j,hj,rfl,b,f⟩:=hrel;by_cases av:j<L
     ·obtain⟨s,bb,b3,bj⟩:=GG.out j av;obtain⟨G',ct,a8,_,l⟩:=f.out.each i g cc.out;rw[HV.out]at a8;injection a8 with a8
      injection a8 with hv1 _ hv2
      injection hv1 with hv1
      injection hv1 with hv1 _ _
      subst hv1 hv2;obtain⟨b8,h,_,_,_,d,_⟩:=l.at_ (by rw[HL.out];omega);injection h with h
      injection h with h _ _
      subst h;have x0:=d j (by rw[HL.out];exact av);rw[qP2,bb,qRs]at x0;obtain⟨q,hq⟩:=zB (i%2);have ca:q<2:=za
      obtain⟨x1,ha,cv,_⟩:=b.out.get q ca;have br:zDc q x y<D:=by unfold zDc;split<;>assumption
      have a5:=b.out.step q s za b3 (V:=((wt m (10*i+j) q s:Nat):Int)+1) za;have Z:=f.out.set (i:=s) br (qV qj (((wt m (10*i+j) q s:Nat):Int)+1));obtain⟨X,hX⟩:=zB (zDc q x y);rw[hX]at x1 ha a5 Z;have x2:=ha.cell s bj;have x3:=ha.free s;have cj:=qBx m (10*i+j) q s;obtain⟨u,hu⟩:=zB (wt m (10*i+j) q s);rw[hu]at x2 a5 Z cj;have d4:(i:Int).tmod 2=(q:Int):=by rw[qSd za];omega
      obtain⟨WE,GR⟩:=yQ a5 Z;clear bb b3 l d hq a5 Z hX hu ha b f;go_wp2;go_roundw
      case rel=>exact⟨j+1,za,by go_num,WE,GR⟩
      case measure=>simp only[intOf];omega
     ·obtain rfl:L=j:=za
      have b6:10*i+L=min (10*(i+1)) k:=za
      rw[b6]at b;clear b6;go_wp2;go_roundw
      case rel=>exact⟨i+1,za,by go_num,b,f⟩
      case measure=>simp only[intOf];omega
   ·obtain rfl:K=i:=za
    rw[show min (10*K) k=k by omega]at b;have bd:=b.out.az;have a0:(prog.info? TA).map (·.size)=qw 2:=zf
    obtain⟨HZ,HI,BW⟩:=yR bd a0 b.out.below;have HW:=yP (∀q,q<2->yZ wr (qw ⟨zDc q x y,0,qx⟩) ((ws m n q).map ival)) (fun q hq=>by
     obtain⟨_,ha,_,_⟩:=b.out.get q hq;have e:ws m n q=(yK n).map (wt m k q):=by unfold ws;rw[HK.out]
     rw[e];exact zTe ha zm (fun i hi=>by rw[qQi,qQ8]at hi;rw[qP2,qSe hi];rfl))
    obtain⟨F,hF⟩:=zB wr.heap.size;have bw:B<=F:=by rw[<-hF,<-a9.out];exact b.out.below.size
    have HF:=zH hF;have O:∃cs:Array qz,#[Value.slice (qw ⟨x,0,qx⟩) n n,Value.slice (qw ⟨y,0,qx⟩) n n]=cs:=⟨_,rfl⟩;obtain⟨cs,O⟩:=O;have cd:=yP (∀q,q<2->cs[q]? =qw (qX (qw ⟨zDc q x y,0,qx⟩) n n)) (fun q hq=>by
     rw[<-O];obtain rfl|rfl:q=0\/q=1:=za
     ·rfl
     ·rfl)
    rw[O]at HZ;have ce:=yP ((prog.info? TA).map (·.size)=qw cs.size) (by rw[<-O];exact a0);clear bd a0 b hF O HI;go_wp2_with (refine wpList_load_row rfl TA (.tmp 7) rfl z rfl TA cs (0,0) (.array 2 TL_) HZ.out underlying162 rfl ce.out ?_);obtain⟨wo,rfl⟩:∃wo,wo=wr:=⟨_,rfl⟩;go_loopw [4,77] (fun tv jv wr=>∃(j cp:Nat) (p:Option yB) (us:List qz),j<=2/\jv=qV qj j/\tv=qX p j cp/\yH (Tb wr F n p j cp us ((yK j).map (tb m n)))/\yH (yI F wo wr)) (fun _ jv _=>2-(intOf jv).toNat)
    case atStart=>exact⟨0,0,qx,[],za,rfl,rfl,zH (Tb.start _ _ _),zH (yN _ _)⟩
    case round=>
     obtain⟨j,cp,p,us,hj,rfl,rfl,N,hb⟩:=hrel;by_cases a1:j<2
     ·have d3:=zE8 (P:=yG) (t:=TA) (n:=2) (e:=TL_) underlying162 (fun _=>isAgg23 _) (fun _=>sizeOf23 _) cs j _ a1 (cd.out j a1) wr;have ak:(Ch.one (ws m n j)).sum<=20000:=by
       have h5:=zNg (ws m n j);have h6:=zV4 m n j;rw[zLv]at h5;rw[HK.out]at h6;omega
      have am:=zH (zKj (ws m n j) (qw ⟨zDc j x y,0,qx⟩) n n 20 wr (zLv m n j) h2 ax ((HW.out j a1).below (by rw[HF.out];exact hb.out)) ak (fun u hu=>by
       obtain⟨q,_,rfl⟩:=qQf.1 hu;have:=qBx m (kG m) j q;rw[HK.out]at this;rw[HK.out];omega) za za (fun u hu=>(zDn m n j h2 ax (by rw[HK.out];exact ay)).top u hu))
      rw[show((20:Nat):Int)=20 from rfl]at am;clear ak;go_wp2_with fail;(with_reducible refine am.out.mono ?_);rintro e w6 ⟨G,rfl,hG,b2,b1,a7⟩;have a3:=hb.out.size;rw[HF.out]at a3;obtain⟨p2,c2,w7,bx,ae,bf⟩:=(N.out.grow a7).app b2 b1 za za (by have:=a7.size;omega);have TB:=yP (Tb w7 F n p2 (j+1) c2 (us++[qX (qw ⟨G,0,qx⟩) n n]) ((yK (j+1)).map (tb m n))) (by
       rw[qQu,qQd];exact ae)
      have HB:=zH (hb.out.trans ((a7.mono a3).trans bf));clear am N ae hb a7 bf b2 b1 hG;go_wp2_with (at_builtin;refine xA rfl (.tmp 85) (.tmp 87) 60 rfl rfl rfl bx ?_);go_roundw
      case rel=>exact⟨j+1,c2,p2,_,za,by go_num,rfl,TB,HB⟩
      case measure=>simp only[intOf];omega
     ·obtain rfl:j=2:=za
      rw[show((2:Nat):Int)=(2:Int)from rfl];obtain⟨pp,rfl,cx,b9,_,d,_⟩:=N.out.own.at_ za;obtain⟨G0,v0,t0,i0,cy⟩:=N.out.each 0 (tb m n 0) rfl;obtain⟨G1,v1,t1,i1,cz⟩:=N.out.each 1 (tb m n 1) rfl;have y0:=d 0 za;have y1:=d 1 za;rw[v0]at y0;rw[v1]at y1;obtain⟨S0,S1⟩:=yQ t0 t1;have HP:=yP (yZ wr (qw ⟨pp,0,qx⟩) [qX (qw ⟨G0,0,qx⟩) n n,qX (qw ⟨G1,0,qx⟩) n n]) (by
       intro i u hu;refine⟨pp,0,rfl,?_⟩;rw[qQc]
       match i,hu with
       |0,hu=>rw[y0];simpa using hu
       |1,hu=>rw[y1];simpa using hu
       |i+2,hu=>simp at hu)
      obtain⟨Y0,Y1⟩:=yQ y0 y1;obtain⟨H,hH⟩:=zB wr.heap.size;have a3:=hb.out.size;rw[HF.out,hH]at a3;obtain⟨HH,HB,GR⟩:=yR hH hb.out (f.out.below hb.out (by rw[HF.out];exact qPq _));have bc:pp<H:=by rw[<-hH];exact b9
      obtain⟨R0,S⟩:=zB (tb m n 0);obtain⟨R1,Y⟩:=zB (tb m n 1);have bk:=yP (Right R0) (by rw[<-S];exact zDn m n 0 h2 ax (by rw[HK.out];exact ay));have c8:=yP (Right R1) (by rw[<-Y];exact zDn m n 1 h2 ax (by rw[HK.out];exact ay));have bn:=yP (kG R0=n) (by rw[<-S,zG5]);have c7:=yP (kG R1=n) (by rw[<-Y,zG5]);have HC:=yP (chosen m n=(grp m).map (zGi R0 R1)) (by rw[<-S,<-Y];rfl);rw[S]at S0;rw[Y]at S1;obtain⟨bz,bp⟩:=yQ S Y;clear S Y N hb d v0 v1 t0 t1 i0 i1 hH y0 y1 b9 f;obtain⟨an,rfl⟩:∃wo,wo=wr:=⟨_,rfl⟩;go_wp2;go_loopw [5,92] (fun qv iv wr=>∃(i cq:Nat) (q:Option yB),i<=K/\iv=qV qj i/\qv=qX q i cq/\yH (yg wr H 3 q i cq ((((grp m).take i).map (zGi R0 R1)).map ival))/\yH (yI H an wr)) (fun _ iv _=>K-(intOf iv).toNat)
      case atStart=>exact⟨0,0,qx,za,rfl,rfl,zH (Kit.Own.start _ _ _),zH (yN _ _)⟩
      case round=>
       obtain⟨i,cq,q,hi,rfl,rfl,l,hb⟩:=hrel;have r:yI an.heap.size an wr:=by rw[HH.out];exact hb.out
       by_cases o:i<K
       ·obtain⟨g,hg⟩:∃g,(grp m)[i]? =qw g:=⟨_,qPu (by rw[M.out];exact o)⟩;have f:=GR.out.below r (qPq _);obtain⟨G,c',hv,ac,I⟩:=f.each i g hg;obtain⟨c6,ck,b5⟩:=zHg (qSt hg);obtain⟨L,hL⟩:=zB (kG g);rw[hL]at hv ac I ck;obtain⟨b8,h,_,_,_,d,_⟩:=f.own.at_ za;injection h with h
        injection h with h _ _
        subst h;have x0:=d i o;rw[hv]at x0;have x1:wr.cell? ⟨pp,0,qx⟩=qw (qX (qw ⟨G0,0,qx⟩) n n):=by
         rw[<-Y0.out];simp only[yM,hb.out.block pp bc]
        have x2:wr.cell? ⟨pp,1,qx⟩=qw (qX (qw ⟨G1,0,qx⟩) n n):=by
         rw[<-Y1.out];simp only[yM,hb.out.block pp bc]
        have ab:∀u∈g,u<n:=fun u hu=>HM.out u (b5 u hu);obtain⟨ai,ao,HG,ba⟩:=yS (zRy R0 g (qw ⟨G0,0,qx⟩) n n (qw ⟨G,0,qx⟩) L c' wr bn.out (S0.out.below r) bk.out hL za I.src ab) (fun W (hW:yI wr.heap.size wr W)=>zRy R1 g (qw ⟨G1,0,qx⟩) n n (qw ⟨G,0,qx⟩) L c' W c7.out ((S1.out.below r).below hW) c8.out hL za (I.src.below hW) ab) hg l;have bh:=hb.out.size;rw[HH.out]at bh;obtain⟨c0,aj⟩:=zB (cost R0 g);obtain⟨c1,ag⟩:=zB (cost R1 g);have ah:=yP (zGi R0 R1 g=if c1<c0 then 1 else 0) (by rw[<-aj,<-ag];rfl);rw[aj]at ai;rw[ag]at ao;clear hg hv d f I c6 b5 ab hL l aj ag r;go_wp2_with fail;(with_reducible refine ai.out.mono ?_);rintro e w8 ⟨rfl,a4⟩;obtain⟨X2,b7⟩:=yQ x2 (ao.out w8 a4);have x3:w8.cell? ⟨pp,1,qx⟩=qw (qX (qw ⟨G1,0,qx⟩) n n):=by
         rw[<-x2];simp only[yM,a4.block pp za]
        have B8:=zH a4;clear x0 x1 x2 a4 ai ao;go_wp2_with fail;(with_reducible refine b7.out.mono ?_);rintro e w9 ⟨rfl,af⟩;have a2:yI H wr w9:=(B8.out.mono za).trans (af.mono (by have:=B8.out.size;omega));have az:yI wr.heap.size wr w9:=B8.out.trans (af.mono B8.out.size);have d7:=a2.size;obtain⟨u,hu⟩:=zB (zGi R0 R1 g);obtain⟨p3,c3,ci,au,b0,ap⟩:=zZ6 (ba.out.out.below az (qPq _)) u za za;have HO:=yP (yg ci H 3 p3 (i+1) c3 ((((grp m).take (i+1)).map (zGi R0 R1)).map ival)) (by
         rw[qQo (by rw[M.out];exact o),qQd];have h6:(grp m)[i]'(by rw[M.out];exact o)=g:=by
          have h7:=HG.out;rw[qPu (by rw[M.out];exact o)]at h7;exact qPv h7
         rw[h6];simp only[qQa,qSq,hu];exact b0)
        have aq:=zH (hb.out.trans (a2.trans ap));rw[hu]at ah;clear af a2 az ap b0 b7 x3 X2 hu ba hb;by_cases hc:c1<c0
        ·have ar:u=1:=by rw[ah.out,qPr hc]
         subst ar;have bo:decide ((c1:Int)<(c0:Int))=yD:=qP9 za;go_wp2_with (at_builtin;refine xA rfl (.tmp 115) (.tmp 117) 23 rfl rfl rfl au ?_);go_roundw
         case rel=>exact⟨i+1,c3,p3,za,by go_num,rfl,HO,aq⟩
         case measure=>simp only[intOf];omega
        ·have ar:u=0:=by rw[ah.out,qPt hc]
         subst ar;have bo:decide ((c1:Int)<(c0:Int))=yE:=qP1 za;go_wp2_with (at_builtin;refine xA rfl (.tmp 115) (.tmp 117) 23 rfl rfl rfl au ?_);go_roundw
         case rel=>exact⟨i+1,c3,p3,za,by go_num,rfl,HO,aq⟩
         case measure=>simp only[intOf];omega
       ·obtain rfl:K=i:=za
        have cf:=yP ((grp m).take K=grp m) (qQg (by rw[M.out];exact qPq _));rw[cf.out]at l;obtain⟨bq,cm,cn,cb⟩:=yS (HP.out.below r) (S0.out.below r) (S1.out.below r) (BW.out.trans ((HB.out.mono bw).trans (hb.out.mono za)));clear r;go_wp2;refine qP5 (v:=qZ #[qX (qw ⟨pp,0,qx⟩) 2 cp,qX q K cq,qV qj 0]) zf rfl ?_;rw[HC.out,bz.out,bp.out,M.out];exact⟨_,_,_,_,G0,G1,rfl,bq.out,cm.out,cn.out,l.out.src,cb.out⟩
end Ch
namespace Hf
open Front Bt Zr
section
variable {P:Program} {ops:Array Oper} {Q:Exit->Act->qy->Prop} {md:Region.Mode}
theorem qD6 (i j:Nat) {b c:Oper} (d e:qz) {k:Nat} {f:Array Bool} {a:Act} {w:qy} (hi:ops[i]? =qw b) (l:ops[j]? =qw c) (u:Region.ready md ops f=[i,j])
  (q:Region.wanted b (yielded ops a.tmps)=yD) (r:Region.wanted c (yielded ops a.tmps)=yD) (z:(execOp a.eval b).run P w= .ok (.value d) w) (B:(execOp a.eval c).run P w= .ok (.value e) w)
  (m:Region.ready md ops (f.setIfInBounds i yD)=[j]) (o:Region.wanted c (yielded ops (a.put b.dst d).tmps)=yD) (x:(execOp (a.put b.dst d).eval c).run P w= .ok (.value e) w)
  (n:Region.ready md ops (f.setIfInBounds j yD)=[i]) (p:Region.wanted b (yielded ops (a.put c.dst e).tmps)=yD) (y:(execOp (a.put c.dst e).eval b).run P w= .ok (.value d) w)
  (t:(f.setIfInBounds j yD).setIfInBounds i yD=(f.setIfInBounds i yD).setIfInBounds j yD) (s:(a.put c.dst e).put b.dst d=(a.put b.dst d).put c.dst e)
  (h:wpAny P md ops Q k ((f.setIfInBounds i yD).setIfInBounds j yD) ((a.put b.dst d).put c.dst e) w):wpAny P md ops Q (k+2) f a w:=by
 refine wpAny_ready u zm (AllReady.cons hi (fun K g=> ?_) (AllReady.cons l (fun K g=> ?_) AllReady.nil))
 ·rw[qPr q];exact Oper.wp_mono g (Kit.zJ0 d z (Kit.zJ1 j l m o (Kit.zJ0 e x h)))
 ·rw[qPr r];exact Oper.wp_mono g (Kit.zJ0 e B (Kit.zJ1 i hi n p (Kit.zJ0 d y (by rw[t,s];exact h))))
end
theorem zX6 {P:Program} {b:Array Oper} {Q:Exit->Act->qy->Prop} {f:Region.Mode} (i:Nat) {j:Nat} {d:Array Bool} {a:Act} {w w':qy} {ty:yA} {x y:Operand} {g:yB} {v:qz} (l:Region.ready f b d=[i])
  (c:(b[i]?).map (fun o=>(o.op,o.dst))=qw (.store ty x y,qx)) (e:(b[i]?).map (fun o=>Region.wanted o (yielded b a.tmps))=qw yD)
  (m:a.eval x=qY (qw g)) (n:a.eval y=v) (k:(storeVar ty g v).run P w= .ok () w') (h:wpAny P f b Q j (d.setIfInBounds i yD) a w'):wpAny P f b Q (j+1) d a w:=by
 cases hi:b[i]? with
 |none=>rw[hi]at c;cases c
 |some o=>
  rw[hi]at c e;simp only[qRs,qTy,Prod.mk.injEq]at c e;refine Kit.zJ1 i hi l e (zPs c.1 m n k ?_);rw[c.2];exact h
theorem zP9 {P:Program} {ρ:Operand->qz} {o:Oper} {t e:yA} {x y:Operand} {g n c k sz:Nat} (b:o.op= .indexAddr t x y) (f:ρ x=qX (qw ⟨g,0,qx⟩) n c) (h:ρ y=qV qj (k:Int)) (j:k<n)
  (d:P.underlying t=qw (.slice e)) (i:∀w,(sizeOf e).run P w= .ok sz w) (w:qy):(execOp ρ o).run P w= .ok (.value (qY (qw ⟨g,k*sz,qx⟩))) w:=by
 have a:(0:Int)<=(k:Int)/\(k:Int)<(n:Int):=⟨za,za⟩;unfold execOp;simp[b,f,h,Instr.indexAt,asIntOf,qRk,qTl d,a,i,Kit.addr_add];omega
theorem zL6 {P:Program} {ρ:Operand->qz} {o:Oper} {t:yA} {x:Operand} {p:yB} {v:qz} {w:qy} (a:o.op= .load t x) (c:ρ x=qY (qw p)) (b:(loadVar t p).run P w= .ok v w):(execOp ρ o).run P w= .ok (.value v) w:=by
 unfold execOp;simp[a,c,Instr.loadAt,Instr.sureAddr,b]
def gB (f:Nat->List Bool) (j:Nat):qz:=if j%2=0 then qW (pk (f (j/2)))else qV qj (kG (f (j/2)):Int)
def zPw (f:Nat->List Bool) (i:Nat) (m:List Bool):Nat->List Bool:=fun k=>if k=i then m else f k
theorem qF5 (f:Nat->List Bool) (i:Nat) (m:List Bool) (j:Nat):upd (upd (gB f) (i*2) (qW (pk m))) (i*2+1) (qV qj (kG m:Int)) j=gB (zPw f i m) j:=by
 unfold upd gB zPw;by_cases a:j=i*2+1
 ·subst a;rw[qPr rfl,show(i*2+1)/2=i by omega,show(i*2+1)%2=1 by omega];simp
 ·rw[qPt a];by_cases b:j=i*2
  ·subst b;rw[qPr rfl,show i*2/2=i by omega,show i*2%2=0 by omega];simp
  ·have c:¬j/2=i:=za
   simp[b,c]
theorem zUs {w:qy} {G n:Nat} {f:Nat->List Bool} (h:Arr w G 51 (n*2) (gB f)):RdB w (qw ⟨G,0,qx⟩) ((yK n).map f):=by
 refine⟨fun j x a=> ?_,fun p d=>by cases d;exact⟨_,_,h⟩⟩;rw[qP2]at a;rcases qP8 j n with b|b
 ·rw[qSe b]at a;simp at a;subst a;refine⟨G,0,rfl,fun i hi=> ?_⟩;have c:LB.k=2:=rfl;rw[c]at hi⊢;rw[qQc,h.cell (j*2+i) za];have:i=0\/i=1:=za
  rcases this with rfl|rfl
  ·unfold gB;rw[qPr za,show(j*2+0)/2=j by omega];rfl
  ·unfold gB;rw[qPt za,show(j*2+1)/2=j by omega];rfl
 ·rw[List.getElem?_eq_none (by simpa using b)]at a;cases a
theorem zXg (w:qy) (n:Nat) (j:n<=100000):∃w',(Instr.makeSlice 70 (qV qj (n:Int)) (qV qj (n:Int))).run yG w= .ok (qX (qw ⟨w.heap.size,0,qx⟩) n n) w'/\
  Arr w' w.heap.size 51 (n*2) (gB (fun _=>[]))/\yI w.heap.size w w':=by
 have b:(prog.info? 51).map (fun i=>(i.zero,i.size,i.bytes))=qw (qw (.agg #[qW ⟨#[]⟩,qV qj 0]),2,24):=zf
 obtain⟨i,hi,d,a,c⟩:=qR0 b;have f:=run_makeSlice (P:=yG) w 70 51 i _ underlying70 hi d qj qj (n:Int) (n:Int) za za (by rw[a];omega) (by rw[c];omega) za;refine⟨_,f,?_,(yN _ _).alloc (qPq _) _⟩;unfold Arr;have e:madeCells (Value.agg #[qW ⟨#[]⟩,qV qj 0]).cells ((n:Int).toNat*i.size)=cellsOf (n*2) (gB (fun _=>[])):=by
  rw[a];show(Array.range (n*2)).map _=_;refine zDm (fun k g=> ?_);unfold gB;show(#[Value.string ⟨#[]⟩,Value.int qj 0]:Array qz)[k%2]! =_;rcases qT9 k with h|h
  ·rw[h,qPr rfl];show Value.string ⟨#[]⟩=Value.string (pk ([]:List Bool));rfl
  ·rw[h,qPt za];rfl
 rw[e];show(w.heap.push _)[w.heap.size]? =_;simp
theorem zUm (w:qy) (G k i:Nat) (f:Nat->List Bool) (m:List Bool) (h:Arr w G 51 (k*2) (gB f)) (hi:i<k):∃w',(storeVar 51 ⟨G,i*2,qx⟩ (.agg #[qW (pk m),qV qj (kG m:Int)])).run yG w= .ok () w'/\
  Arr w' G 51 (k*2) (gB (zPw f i m))/\(∀j,j≠G->w'.heap[j]? =w.heap[j]?)/\w'.heap.size=w.heap.size/\(∀B,B<=G->yI B w w'):=by
 have a:=qSm (P:=yG) w G (i*2) 51 #[qW (pk m),qV qj (kG m:Int)] (fun j b=>by
  have d:j<2:=b;exact⟨by rw[h.cell (i*2+j) za];rfl,h.free (i*2+j)⟩) zf (by simp[Value.oneCell'])
 refine⟨_,a,?_,?_,?_,?_⟩
 ·exact((h.set (i*2) (qW (pk m))).set (i*2+1) (qV qj (kG m:Int))).congr (fun j b=>qF5 f i m j)
 ·exact fun j b=>(zAa b).trans (zAa b)
 ·simp[World.setCells,World.setCell]
 ·exact fun B c=>((yN _ w).setCell (p:=⟨G,i*2,qx⟩) c _).setCell (p:=⟨G,i*2+1,qx⟩) c _
theorem zRq (l:List Nat) (a:Option yB) (n c:Nat) (m:List Nat) (a1:Option yB) (k c1:Nat) (w:qy) (hn:kG l=n) (hs:yZ w a (l.map ival)) (ha:∀p,a=qw p->p.block<w.heap.size) (hr:Right l)
  (hm:kG m=k) (hk:k<=10000) (ax:yZ w a1 (m.map ival)) (av:∀s∈m,s<n):
  yC yG 30 #[qX a n c,qX a1 k c1] w fun e w'=>e=qp (qZ #[zAe (m.flatMap (word l)),qV qj 0])/\yI w.heap.size w w':=by
 obtain⟨B,hB⟩:=zB w.heap.size;obtain⟨W,hW⟩:=zB (w.alloc (qm #[qW ⟨#[]⟩,qV qj 0] 51));have zW:W.heap.size=B+1:=by rw[<-hW,zA,hB]
 have O:yI B w W:=by rw[<-hW,<-hB];exact(yN _ _).alloc (qPq _) _
 have c0:W.heap[B]? =qw (qm #[qW ⟨#[]⟩,qV qj 0] 51):=by
  rw[<-hW,<-hB];show(w.heap.push _)[w.heap.size]? =_;simp
 have F:=zH (zV7 l a n c W hn (hs.below (by rw[hB];exact O)) (fun p hp=>by have:=ha p hp;omega) hr);rw[zW]at F;obtain⟨T,hT⟩:=zB (m.flatMap (word l));rw[hT];have HT:=zH hT;clear hT;obtain⟨C0,Z,aj,Y,HM,HN,HR⟩:=yV c0 O ax av hm hn hr;have ai:=hr.most;rw[hn]at ai;clear c0 O ax av hm hn hs ha hr;rw[hB];go_enter func30,ntmps30;go_wp2_with fail;(with_reducible refine F.out.mono ?_);clear F;rintro e w2 ⟨G,rfl,hG,K,S⟩;have a4:=K.lt;have L:=K.congr (h:=gW l (fun _=>yD)) (fun j hj=>by unfold gW;rw[qGa HR.out (j/2) (by rw[HN.out];omega)]);obtain⟨w3,ac,M,b⟩:=zXg w2 k za;obtain⟨q,ad⟩:=zB w2.heap.size;rw[ad]at ac M b a4;have A3:=yP (Arr w3 G 188 (n*2) (gW l (fun _=>yD))) ((b.block G a4).trans L);obtain⟨L3,C3,B3⟩:=yR M ((b.block B za).trans ((S.block B za).trans C0.out)) (Z.out.trans ((S.mono za).trans (b.mono za)));clear K L M S b C0 Z hW zW;go_wp2;clear ac ad;go_loopw [25] (fun iv wr=>∃(i:Nat) (f:Nat->List Bool),i<=k/\iv=qV qj (i:Int)/\yH (∀j,j<i->f j=word l (m.getD j 0))/\yH (Arr wr G 188 (n*2) (gW l (fun _=>yD)))/\yH (Arr wr q 51 (k*2) (gB f))/\yH (wr.heap[B]? =qw (qm #[qW ⟨#[]⟩,qV qj 0] 51))/\yH (yI B w wr)) (fun iv _=>k-(intOf iv).toNat)
 case atStart=>exact⟨0,fun _=>[],za,rfl,zH (fun j hj=>za),A3,L3,C3,B3⟩
 case round=>
  clear A3 L3 C3 B3;obtain⟨i,f,hi,rfl,hf,hA,hL,hC,hb⟩:=hrel;by_cases a7:i<k
  ·have H:i<kG m:=by rw[HM.out];exact a7
   obtain⟨s,o⟩:=zB (m[i]);have a8:s<n:=by rw[<-o];exact Y.out _ (qQ H)
   obtain⟨g,off,rfl,e0⟩:=(aj.out.below (w':=wr) (by rw[hB];exact hb.out)) i (ival s) (by rw[qP2,qPu H,o];rfl);have a5:m.getD i 0=s:=by rw[qPw,qPu H,o];rfl
   have x0:=hA.out.cell (s*2) za;have x1:=hA.out.cell (s*2+1) za;unfold gW at x0 x1;simp only[qRw]at x0 x1;rw[qPr za,show s*2/2=s by omega]at x0;rw[qPt za,show(s*2+1)/2=s by omega]at x1;have az:decide ((s:Int)<0)=yE:=qP1 za;have b0:decide ((n:Int)<=(s:Int))=yE:=qP1 za;have a3:=HR.out.top (l.getD s 0) (zF6 (by rw[HN.out];exact a8));have am:=zPt HR.out s (by rw[HN.out];exact a8);have ag:2^l.getD s 0<=2^20:=qR8 za a3;have HP:=zH (zD1 [] (zB9 l s) (l.getD s 0) (m':=word l s) (qQl _) (d:=⟨#[]⟩) rfl (k:=0) (V:=(zB9 l s:Int)) (N:=(l.getD s 0:Int)) rfl rfl rfl za za (by rw[qQx];omega) wr.drew);have l0:(loadVar 3 ⟨G,s*2,qx⟩).run yG wr.drew= .ok (qV qj (l.getD s 0:Int)) wr.drew:=by
    have aq:wr.drew.cell? ⟨G,s*2,qx⟩=qw (qV qj (l.getD s 0:Int)):=x0;simp[loadVar,go_sem,aq]
   have l1:(loadVar 64 ⟨G,s*2+1,qx⟩).run yG wr.drew= .ok (qV .u64 (zB9 l s:Int)) wr.drew:=by
    have ak:wr.drew.cell? ⟨G,s*2+1,qx⟩=qw (qV .u64 (zB9 l s:Int)):=x1;simp[loadVar,go_sem,ak]
   have ar:=zH a5;clear a5 o a3 am ag;go_wp2;refine Kit.zX7 zf ?_;refine xR 0 (qX (qw ⟨q,0,qx⟩) k k) rfl zf zf zf (fun _ _ _ h=>h) zf (fun w=>zf) ?_;refine xR 1 (qV qj (i:Int)) rfl zf zf zf (fun _ _ _ h=>h) zf (fun w=>zf) ?_;refine xR 2 (.agg #[qW ⟨#[]⟩,qV qj 0]) rfl zf zf zf (fun _ _ _ h=>h) zf (fun w=>zf) ?_;refine xR 3 (qX (qw ⟨G,0,qx⟩) n n) rfl zf zf zf (fun _ _ _ h=>h) zf (fun w=>zf) ?_;refine xR 4 (qV qj (s:Int)) rfl zf zf zf (fun _ _ _ h=>h) zf (fun w=>zf) ?_;refine xR 5 (qY (qw ⟨G,s*2,qx⟩)) rfl zf zf zf (fun _ _ _ h=>h) zf (fun w=>zP9 (t:=184) (x:= .tmp 43) (y:= .tmp 44) (g:=G) (n:=n) (c:=n) (k:=s) (sz:=2) rfl zf zf za underlying184 (fun _=>sizeOf188 _) w) ?_;refine xR 6 (qY (qw ⟨G,s*2+1,qx⟩)) rfl zf zf zf (fun _ _ _ h=>h) zf (fun w=>zf) ?_;refine xR 8 (qX (qw ⟨G,0,qx⟩) n n) rfl zf zf zf (fun _ _ _ h=>h) zf (fun w=>zf) ?_;refine xR 9 (qV qj (s:Int)) rfl zf zf zf (fun _ _ _ h=>h) zf (fun w=>zf) ?_;refine xR 10 (qY (qw ⟨G,s*2,qx⟩)) rfl zf zf zf (fun _ _ _ h=>h) zf (fun w=>zP9 (t:=184) (x:= .tmp 48) (y:= .tmp 49) (g:=G) (n:=n) (c:=n) (k:=s) (sz:=2) rfl zf zf za underlying184 (fun _=>sizeOf188 _) w) ?_;refine xR 11 (qY (qw ⟨G,s*2,qx⟩)) rfl zf zf zf (fun _ _ _ h=>h) zf (fun w=>zf) ?_;refine qD6 7 12 (qV .u64 (zB9 l s:Int)) (qV qj (l.getD s 0:Int)) rfl rfl zf zf zf (zL6 (t:=64) (x:= .tmp 46) rfl zf l1) (zL6 (t:=3) (x:= .tmp 51) rfl zf l0) zf zf (zL6 (t:=3) (x:= .tmp 51) rfl zf l0) zf zf (zL6 (t:=64) (x:= .tmp 46) rfl zf l1) zf zf ?_;refine Kit.zJ1 13 rfl zf zf ?_;refine Kit.zRl 24 #[.agg #[qW ⟨#[]⟩,qV qj 0],qV .u64 (zB9 l s:Int),qV qj (l.getD s 0:Int)] (qZ #[.agg #[qW (pk (word l s)),qV qj (kG (word l s):Int)],qV qj 0]) (R:=fun w'=>yI wr.drew.heap.size wr.drew w') zf HP.out ?_;intro w5 z;refine xR 14 (qZ #[.agg #[qW (pk (word l s)),qV qj (kG (word l s):Int)],qV qj 0]) rfl zf zf zf (fun _ _ _ h=>h) zf (fun w=>zf) ?_;refine xR 15 (.agg #[qW (pk (word l s)),qV qj (kG (word l s):Int)]) rfl zf zf zf (fun _ _ _ h=>h) zf (fun w=>zf) ?_;refine xR 16 (qV qj 0) rfl zf zf zf (fun _ _ _ h=>h) zf (fun w=>zf) ?_;refine xR 17 (qY (qw ⟨q,i*2,qx⟩)) rfl zf zf zf (fun _ _ _ h=>h) zf (fun w=>zP9 (t:=70) (x:= .tmp 40) (y:= .tmp 41) (g:=q) (n:=k) (c:=k) (k:=i) (sz:=2) rfl zf zf za underlying70 (fun _=>sizeOf51 _) w) ?_;have ab:Arr w5 q 51 (k*2) (gB f):=(z.block q hL.out.lt).trans hL.out;obtain⟨w6,a9,a0,u,an,a2⟩:=zUm w5 q k i f (word l s) ab a7;have au:=zH a9;clear a9 ab;refine zX6 18 (ty:=51) (x:= .tmp 56) (y:= .tmp 54) (g:=⟨q,i*2,qx⟩) (v:= .agg #[qW (pk (word l s)),qV qj (kG (word l s):Int)]) zf zf zf zf zf au.out ?_;refine wpAny_done zf ?_ _;have ao:=z.size;have ae:w6.heap[B]? =qw (qm #[qW ⟨#[]⟩,qV qj 0] 51):=(u B za).trans ((z.block B (by have:=zAd hC.out;exact this)).trans hC.out);have a6:Arr w6 G 188 (n*2) (gW l (fun _=>yD)):=(u G za).trans ((z.block G hA.out.lt).trans hA.out);have ap:wr.drew.heap.size=wr.heap.size:=rfl;have I:yI B wr w5:=by
    have ay:=zAd hC.out;have h:yI B wr.drew w5:=z.mono (show B<=wr.heap.size by omega);exact⟨h.os,h.tape,h.output,h.size,h.block⟩
   have af:yI B w w6:=(hb.out.trans I).trans (a2 B za);clear I ap;obtain⟨C6,A6,B6,L6⟩:=yS ae a6 af a0;clear ae a6 af a0 z u an a2 ao l0 l1 x0 x1 e0;go_wp2;go_roundw
   case rel=>exact⟨i+1,zPw f i (word l s),za,by go_num,zH (fun j hj=>by
    unfold zPw;by_cases e:j=i
    ·rw[qPr e,e,ar.out]
    ·rw[qPt e];exact hf.out j za),A6,L6,C6,B6⟩
   case measure=>simp only[intOf];omega
  ·obtain rfl:i=k:=za
   have aa:(yK i).map f=m.map (word l):=by
    refine qRt (fun j=> ?_);rw[qP2,qP2];rcases qP8 j i with h|h
    ·rw[qSe h,qPu (by rw[HM.out];exact h)];show qw (f j)=qw (word l (m[j]'(by rw[HM.out];exact h)));rw[hf.out j h,qPw,qPu (by rw[HM.out];exact h)];rfl
    ·rw[List.getElem?_eq_none (by simpa using h),List.getElem?_eq_none (by rw[HM.out];exact h)];rfl
   have P:((yK i).map f).flatten=m.flatMap (word l):=by rw[aa];rfl
   have r:kG (m.flatMap (word l))<=20*kG m:=by
    have:∀(ms:List Nat),(∀s∈ms,s<n)->kG (ms.flatMap (word l))<=20*kG ms:=by
     intro ms
     induction ms with
     |nil=>intro _;simp
     |cons s ms ih=>
      intro h;have h1:=ih (fun x hx=>h x (List.mem_cons_of_mem _ hx));have h2:=HR.out.top (l.getD s 0) (zF6 (by rw[HN.out];exact h s zm));rw[qSl,qPx,zCu,qP3];omega
    exact this m Y.out
   rw[HM.out]at r;have HC:=zH (zFs (qw ⟨q,0,qx⟩) i i ((yK i).map f) wr zm (qPq _) za (zUs hL.out) (by rw[P];omega));rw[P]at HC;rw[HT.out]at HC;unfold zAe at HC;obtain⟨y0,y1,f0,f1⟩:=zAf hC.out;have ah:=zAd hC.out;clear r aa P;go_wp2_with fail;(with_reducible refine HC.out.mono ?_);rintro e w4 ⟨rfl,X⟩;clear y0 y1 f0 f1;obtain⟨y0,y1,f0,f1⟩:=zAf ((X.block B ah).trans hC.out);have H4:=zH (hb.out.trans (X.mono (by have:=hb.out.size;omega)));clear X;go_wp2
   try simp only[Exit.inBlock,Exit.then]
   exact qP5 (zEk rfl _ _ B _ _ _ rfl rfl (Bt.zCy y0) (Bt.zCx y1)) rfl ⟨rfl,zCs H4.out za⟩
end Hf
end Go.Proofs.YtppnakkaljbmbaaGreatDoor
