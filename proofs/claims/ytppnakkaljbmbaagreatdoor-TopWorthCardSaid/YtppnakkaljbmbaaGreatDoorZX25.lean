/- Steps of a proof; no condition beyond what each states. -/
import Derived.Test.YtppnakkaljbmbaaGreatDoorZX00
import Derived.Test.YtppnakkaljbmbaaGreatDoorZX24
set_option linter.unusedVariables false
set_option linter.unusedSimpArgs false
set_option maxRecDepth 100000
set_option maxHeartbeats 8000000
open List renaming length->kG
open Go.Proofs.YtppnakkaljbmbaaGreatDoor.Kit renaming Src->yZ,Own->yg,Own'->yj,zAr->xA,zAq->xL,Lay->xO
open Go.Proofs.YtppnakkaljbmbaaGreatDoor.Crc renaming sum->yu,U->xD
open Go.Proofs.YtppnakkaljbmbaaGreatDoor.Rle renaming bs->yw,zBk->xu,Bld->xw
open Go.Proofs.YtppnakkaljbmbaaGreatDoor.Bt renaming pk->xP
open Go.RowKit
open Go.Proofs.Tryz
open Go.Value renaming int->qV,string->qW,slice->qX,pointer->qY,tuple->qZ
open Go.IntKind renaming i64->qj,u8->ql
open Go.Obj renaming cells->qm,deferred->qo
open Go.Ending renaming returned->qp
open Option renaming some->qw,none->qx
open Go renaming World->qy,Value->qz,TypeId->yA,Addr->yB,Calls->yC,undef->yJ
open Bool renaming true->yD,false->yE
open Go.Proofs.Tryz renaming prog->yG
open Go.RowKit renaming Hid->yH,Below->yI
open List renaming range->yK
open Go.World renaming cell?->yM
open Go.RowKit.Below renaming refl->yN
open And renaming intro->yO
namespace Go.Proofs.YtppnakkaljbmbaaGreatDoor
namespace Sm
open Hf Zr Front Ch Sq Tn Rg
theorem zRw {A B:qy} {b:Nat} {v:qz} (h:Boxed A b 9 v) {D:Nat} (g:RP D A B):Boxed B b 9 v:=
 g.old b _ h (.inr ⟨(fun a f e=>by injection e with _ e _;exact absurd e z8),(fun a f e=>by injection e with _ e _;exact absurd e z8)⟩)
theorem qCq {a:ByteArray} (h:0<a.size):¬a.toList.isEmpty=yD:=by
 rw[qS8];intro e;rw[List.isEmpty_iff]at e;have:kG a.data.toList=a.size:=by simp
 rw[e]at this;simp at this;omega
theorem zW8 (D b Z n:Nat) (ps:List T) (a:ByteArray) (A:Arc Z ps a n) (C:Nat->yA->Prop) (a1:∀k,¬C k TSr) (a2:∀k,¬C k zCf) (a3:¬C b 9) (W:qy) (hD:D<=W.heap.size) (a0:Boxed W b 9 (qW a)):
  qBt yG 188 #[qY (qw ⟨b,0,qx⟩)] (EP Z ps) (RP D) C (yK n) W:=by
 intro l J Jx Y hY h0;obtain⟨K,hK⟩:=zB W.heap.size;obtain⟨y,f⟩:=zB (W.alloc (qm #[qW a,qV qj 0,qX qx 0 0] TSr));have H:=yP (SR y K a 0 qx 0 0) (by rw[<-f,<-hK];exact zAh W _);have o:RP D W y:=RP.below (E:=W.heap.size) (by rw[<-f];exact(yN _ _).alloc (qPq _) _) rfl;obtain⟨F,HJ,L,X⟩:=yS (Y _ _ _ h0 o) Y (zRw a0 o) (fun(w:qy) (h1:SR w K a 0 qx 0 0) (h2:J [] w) (h3:Boxed w b 9 (qW a))=>
  zUl D K l Z n za ps a A C a1 a2 (fun pre W=>J pre W/\Boxed W b 9 (qW a)) Jx (fun pre A B h g=>⟨Y pre A B h.1 g,zRw h.2 g⟩)
   (fun pre x y vs h he hp=>by
    obtain⟨fn,R,r,P,hy,hR⟩:=hY pre x y vs h.1 he hp;refine⟨fn,R,r,P,hy,hR.mono ?_⟩;rintro e W' (⟨z,h5,h6⟩|z)
    ·exact .inl ⟨z,⟨h5,h6.2 _ _ _ _ h.2 a3⟩,h6⟩
    ·exact .inr z) w h1 ⟨h2,h3⟩)
 have j:=a0.cell;have hne:=qCq (a:=a) (by have:=A.head.size;omega);have z:=A.head.size;have hs:=A.size;obtain⟨HW,HK⟩:=yQ f hK;clear f hK o Y hY h0 A;refine qS6 func188 rfl trivial ?_ rfl;simp only[ntmps188,qQ0,qP3,qQx,Nat.reduceAdd,Nat.reduceSub,qQ9,qR,qRa,qRb,qQl,qQr];gi_wp2;rw[HK.out,show W.alloc (qm #[qW a,qV qj 0,qX qx 0 0] TSr)=y from HW.out];clear j;gi_loopw [20] (fun _ wr=>yH (Boxed wr b 9 (qW a))/\((yH (SR wr K a 0 qx 0 0)/\yH (J [] wr))\/∃p m c,yH (SR wr K a (8*a.size) p m c)/\yH (J (yK n) wr))) (fun _ wr=>8*a.size-zVp K wr)
 case atStart=>exact⟨L,.inl ⟨H,F⟩⟩
 case round=>
  clear H F L;obtain⟨I,V⟩:=hrel;have j:=I.out.cell;have a4:IntKind.i64.wrap (8*(a.size:Int))=8*(a.size:Int):=qQb _ ⟨za,za⟩;have s:=zH (fun(q:Nat) (pre:List Nat) (hj:J pre wr)=>HJ.out _ _ _ hj (show RP D wr (wr.drewN q)from⟨rfl,rfl,rfl,qPq _,fun _ _ h _=>h⟩));rcases V with⟨d,i⟩|⟨p,m,c,d,i⟩
  ·have c1:=d.out.c1;rw[show((0:Nat):Int)=0 from rfl]at c1;gi_wp2;gi_quiet (fail);have HC:=zH (X.out (wr.drewN nq) (show SR (wr.drewN nq) K a 0 qx 0 0 from d.out) (s.out nq _ i.out) (show Boxed (wr.drewN nq) b 9 (qW a)from I.out));have G:=zJ7 d.out;have S:=zH G;clear c1 j d i G s;gi_wp2_with fail;refine⟨trivial,(qQj.2 (qQj.1 HC.out)).mono ?_⟩;rintro e w3 (⟨rfl,⟨N,O⟩,p,c,u⟩|⟨rfl,pre,t,M⟩)
   ·obtain⟨J3,B3,S3⟩:=yR N O u;clear N O u HC;gi_wp2;go_roundw
    case rel=>exact⟨B3,.inr ⟨_,_,_,S3,J3⟩⟩
    case measure=>rw[zJ7 S3.out,S.out];omega
   ·have X3:=zH (yO t M);clear t M HC;gi_wp2;refine qP5 (qSy rfl _ _ _) rfl ?_;exact⟨⟨_,rfl⟩,.inr ⟨_,X3.out⟩⟩
  ·have c1:=d.out.c1;rw[show((8*a.size:Nat):Int)=8*(a.size:Int)by omega]at c1;gi_wp2;gi_quiet (fail);gi_wp2
   first|go_end0|refine qP5 (qSy rfl _ _ _) rfl ?_
   exact⟨⟨_,rfl⟩,.inl (s.out nq _ i.out)⟩
end Sm
namespace Sm
open Hf Bt Zr Front Ch Sq Tn Rg
variable {W A w W':qy} {B l n c D:Nat} {e:yA} {a:Option yB} {o:Obj}
attribute [local go_sem] Oper.semAt_some
structure Pt where
 s:ByteArray
 u:BitVec 32
 i:Nat
 j:Nat
 r:Nat
def LPt:xO Pt where
 k:=5
 pos:=za
 cl x:=[qW x.s,zAx x.u,qV qj (x.i:Int),qV qj (x.j:Int),qV qj (x.r:Int)]
 len _:=rfl
 one m:=by simp[Value.oneCell',zAx]
def zD2 (d:Nat) (b:List T) (k:Nat):Pt:=⟨yw (b.getD k []),yu (b.getD k []),pos b k,pos b (k+1),40*d⟩
def zZs (p:Pt):qz:= .agg #[qW p.s,zAx p.u,qV qj (p.i:Int),qV qj (p.j:Int),qV qj (p.r:Int)]
theorem qB0 (b:Nat) (d:List T) (k:Nat):PV b d k=zZs (zD2 b d k):=rfl
theorem zK8 (p:Pt):∃s u i j r,p=⟨s,u,i,j,r⟩:=⟨_,_,_,_,_,rfl⟩
abbrev TPt:yA:=122
abbrev TPs:yA:=115
theorem qG7:Kit.zVx yG TPs TPt LPt.k 48:=⟨underlying115,⟨.agg #[qW ⟨#[]⟩,qV .u32 0,qV qj 0,qV qj 0,qV qj 0],zf,rfl⟩⟩
structure AI (w W:qy) (B n:Nat) (l:List Pt):Prop where
 own:∃p c,Boxed W B TPs (qX p n c)/\yj LPt W (B+2) TPt p n c l
 err:Boxed W (B+1) 26 (qV qj 0)
 below:yI B w W
 size:B+3<=W.heap.size
theorem zQy {α:Type} {L:xO α} {xs:List α} (h:yj L W B e a n c xs) (j:Obj) (p:W.heap[l]? =qw o) (q:o.isCells=yE):yj L (W.putObj l j) B e a n c xs:=by
 obtain⟨k,i⟩:=h;refine⟨k,?_⟩;rcases i with i|⟨g,f,b,hv,d,m,r⟩
 ·exact .inl i
 ·exact .inr ⟨g,f,b,hv,d,zBl m j p q,r⟩
theorem qC3 {α:Type} {L:xO α} {xs:List α} (h:yj L A B e a n c xs) (t:RP D A W) (m:e≠TSr) (p:e≠zCf):yj L W B e a n c xs:=by
 obtain⟨q,j⟩:=h;refine⟨q,?_⟩;rcases j with j|⟨g,i,b,hv,d,s,r⟩
 ·exact .inl j
 ·exact .inr ⟨g,i,b,hv,d,t.old g _ s (.inr ⟨(fun k f e=>by injection e with _ e _;exact m e),(fun k f e=>by injection e with _ e _;exact p e)⟩),r⟩
theorem zPa {b:Nat} {t:yA} {v:qz} (h:Boxed A b t v) (g:RP D A W) (i:t≠TSr) (j:t≠zCf):Boxed W b t v:=
 g.old b _ h (.inr ⟨(fun d f e=>by injection e with _ e _;exact i e),(fun d f e=>by injection e with _ e _;exact j e)⟩)
theorem AI.put {xs:List Pt} (h:AI w W B n xs) (b:Obj) (d:W.heap[l]? =qw o) (f:o.isCells=yE) (j:B<=l):AI w (W.putObj l b) B n xs:=by
 obtain⟨p,c,g,i⟩:=h.own;exact⟨⟨p,c,zBl g b d f,zQy i b d f⟩,zBl h.err b d f,Rle.zAu b h.below d j (by have:=h.size;omega),by rw[putObj_size];exact h.size⟩
theorem AI.rp {xs:List Pt} (h:AI w W B n xs) (g:RP D W W') (b:B<=D) (i:D<=W.heap.size):AI w W' B n xs:=by
 obtain⟨p,c,d,f⟩:=h.own;exact⟨⟨p,c,zPa d g z8 z8,qC3 f g z8 z8⟩,zPa h.err g z8 z8,g.from h.below b i,qP4 h.size g.size⟩
theorem AI.keep {xs:List Pt} (h:AI w W B n xs) (g:yI W.heap.size W W'):AI w W' B n xs:=
 h.rp (D:=W.heap.size) (RP.below g rfl) (by have:=h.size;omega) (qPq _)
theorem AI.push {L:Nat} {xs:List Pt} (h:AI w W B n xs) (hn:n<=100000) (x:Pt) (hL:W.heap[L]? =qw (qm (LPt.cl x).toArray TPt)):
  ∃p c K c1 z w2,Boxed W B TPs (qX p n c)/\(Builtin.append_ #[TPs,TPs] TPs #[qX p n c,qX (qw ⟨W.heap.size,0,qx⟩) 1 1]).run yG (W.alloc (qm (LPt.cl x).toArray TPt))= .ok (qX K (n+1) c1) z/\
   Boxed z B TPs (qX p n c)/\z.setCell ⟨B,0,qx⟩ (qX K (n+1) c1)=w2/\AI w w2 B (n+1) (xs++[x])/\KeepsOthers W w2/\Sc (fun _ t=>t=TPt\/t=TPs) W w2:=by
 obtain⟨p,c,M,P⟩:=h.own;have a1:=h.size;have Y:B+2<=W.heap.size:=za
 obtain⟨K,c1,z,X,F,R⟩:=Kit.Own'.app (ty:=TPs) qG7 (P.alloc (qm (LPt.cl x).toArray TPt)) (qw ⟨W.heap.size,0,qx⟩) 1 1 [x] (Kit.zFo W x TPt) rfl (fun h=>by cases h) (by unfold maxLen;omega) za zq;have H:=(P.alloc (qm (LPt.cl x).toArray TPt)).block;have l:yI W.heap.size W (W.alloc (qm (LPt.cl x).toArray TPt)):=(yN _ _).alloc (qPq _) _;have a:yI (B+2) W z:=(l.mono Y).trans (xL R zq (fun k y=>H k y));have m:Boxed z B TPs (qX p n c):=(a.block B za).trans M;have j:∀(k:Nat) (o:Obj),W.heap[k]? =qw o->(∀N f,o≠qm N TPt f)->z.heap[k]? =qw o:=by
  intro k o y hne;obtain⟨_,_,_,_,u⟩:=R;refine(u k (by simp;have:=zAd y;omega) (fun e=> ?_)).trans ((l.block k (zAd y)).trans y);cases p with
  |none=>cases e
  |some q=>
   rcases P.2 with⟨S,_⟩|⟨g,s,i,hv,a0,b,_⟩
   ·cases S
   ·injection hv with hv _ _
    injection hv with hv
    subst hv;injection e with e
    subst e;rw[b]at y;injection y with y
    exact hne _ _ y.symm
 refine⟨p,c,K,c1,z,_,M,X,m,rfl,⟨⟨K,c1,?_,?_⟩,?_,?_,?_⟩,⟨?_,?_⟩,⟨?_,?_⟩⟩
 ·unfold Boxed at*;exact(zA3 0 (qX K (n+1) c1) m)
 ·obtain⟨V,O⟩:=F;refine⟨V,?_⟩;rcases O with O|⟨g,s,i,hv,G,b,r⟩
  ·exact .inl O
  ·exact .inr ⟨g,s,i,hv,G,(zAa za).trans b,r⟩
 ·exact(zAa za).trans ((a.block (B+1) za).trans h.err)
 ·exact(h.below.trans (a.mono za)).setCell (p:=⟨B,0,qx⟩) (qPq _) _
 ·have:=a.size;simp;omega
 ·have:=a.size;simp;exact this
 ·intro k o y I;have d:k≠B:=by rintro rfl;rw[show W.heap[k]? =_ from M]at y;injection y with y;subst y;cases I
  exact(zAa d).trans (j k o y (fun N f e=>by rw[e]at I;cases I))
 ·have:=a.size;simp;exact this
 ·intro k N t f y I;have d:k≠B:=by rintro rfl;rw[show W.heap[k]? =_ from M]at y;injection y with y;injection y with _ y _;exact I (.inr y.symm)
  exact(zAa d).trans (j k _ y (fun Z f' e=>by injection e with _ e _;exact I (.inl e)))
def AJ (w:qy) (a:ByteArray) (B b:Nat) (d:List T) (pre:List Nat) (x:Nat) (g:Array qz) (f:Act) (W:qy):Prop:=
 ∃L:Nat,f={tmps:= #[qW a,yJ,qY (qw ⟨B,0,qx⟩),qY (qw ⟨B+1,0,qx⟩),qY (qw ⟨L,0,qx⟩),qV qj 0,qW a,.func (.func 188) #[] #[qY (qw ⟨B+2,0,qx⟩)],PV b d x,qV qj 0,yJ,yJ,yJ,yJ,yJ,yJ,yJ,yJ],defers:=[]}/\
  W.heap[L]? =qw (qm (LPt.cl (zD2 b d x)).toArray TPt)/\AI w W B (kG pre) (pre.map (zD2 b d))
theorem zUu (a:ByteArray) (w:qy):
  yC yG 139 #[qW a] w fun e w'=>e=qp (.func (.func 188) #[] #[qY (qw ⟨w.heap.size,0,qx⟩)])/\w'=w.alloc (qm #[qW a] 9):=by
 have d:∀(fn:Fn) (first b:Array qz) (w:qy),(Instr.makeFunc fn first b).run yG w= .ok (.func fn first b) w:=fun _ _ _ _=>rfl;go_enter func139,ntmps139;go_wp2;go_ret;exact⟨rfl,rfl⟩
theorem zYp (q n:Nat) (z:List T) (a:ByteArray) (A:Arc q z a n) (w:qy):
  yC yG 61 #[qW a] w fun e w'=>∃p c,e=qp (qZ #[qX p n c,qV qj 0])/\yj LPt w' w.heap.size TPt p n c ((yK n).map (zD2 q z))/\yI w.heap.size w w':=by
 obtain⟨B,hB⟩:=zB w.heap.size;have HA:=zH A;obtain⟨w2,b⟩:=zB ((w.alloc (qm #[qX qx 0 0] TPs)).alloc (qm #[qV qj 0] 26));have i:w2.heap.size=B+2:=by rw[<-b,zA,zA,hB]
 have b2:yI B w w2:=by rw[<-b,<-hB];exact((yN _ _).alloc (qPq _) _).alloc (by rw[zA];omega) _
 have x2:Boxed w2 B TPs (qX qx 0 0):=by
  rw[<-b];refine(Lib.alloc_old _ _ B (by rw[zA];omega)).trans ?_;rw[<-hB];exact zAh w _
 have y2:Boxed w2 (B+1) 26 (qV qj 0):=by
  rw[<-b,show B+1=(w.alloc (qm #[qX qx 0 0] TPs)).heap.size by rw[zA,hB]];exact zAh _ _
 obtain⟨w3,f⟩:=zB (w2.alloc (qm #[qW a] 9));have I:yI (B+2) w2 w3:=by rw[<-f,<-i];exact(yN _ _).alloc (qPq _) _
 have ab:w3.heap.size=B+3:=by rw[<-f,zA,i]
 have a8:=yP (AI w w3 B 0 []) ⟨⟨qx,0,(I.block B za).trans x2,Kit.Own'.start _ _ _⟩,(I.block (B+1) za).trans y2,b2.trans (I.mono za),za⟩;have X3:=yP (Boxed w3 (B+2) 9 (qW a)) (by rw[<-f,<-i];exact zAh _ _);have HP:=zH (zUu a w2);rw[i,f]at HP;obtain⟨R,HB⟩:=yQ b hB;rw[hB];clear b b2 x2 y2 f I A hB i;refine(qQj (n:=3)).1 ?_;refine callsIn_of_wp_marks func61 rfl trivial ?_ rfl;simp only[ntmps61,qQ0,qP3,qQx,Nat.reduceAdd,Nat.reduceSub,qQ9,qR,qRa,qRb,qQl,qQr];gi_wp2_with fail;rw[HB.out,show(w.alloc (qm #[qX qx 0 0] TPs)).alloc (qm #[qV qj 0] 26)=w2 from R.out];refine⟨trivial,(qQj.2 HP.out).mono ?_⟩;rintro e w4 ⟨rfl,rfl⟩;clear HP R;gi_wp2;refine zL9 (gf:=188) (lb:= #[qY (qw ⟨B+2,0,qx⟩)]) rfl (enters_of func188 zf rfl)
  (EP q z) (RP (B+3)) (fun _ t=>t=TPt\/t=TPs) (yK n)
  (fun _ _ h=>h.keeps)
  (fun _ _ _ h=>by obtain rfl:=h;rfl)
  (fun _ _ _ _ _ _ _ _ h=>h)
  (fun W hW=>zW8 (B+3) (B+2) q n z a HA.out _ (fun _=>z8) (fun _=>z8) z8 W (by have:=hW.size;omega) ((hW.block _ za).trans X3.out))
  (fun pre W=>AI w W B (kG pre) (pre.map (zD2 q z)))
  (fun _ _ _=>False)
  (fun pre W k o o' hk ho a9 hi=>hi.put o' ho a9 za)
  (fun _ _ _ _ _ _ _ _ _ h=>h)
  (fun pre A D hi hr=>hi.rp hr za hi.size)
  (fun o o'=>a8.out.keep (((yN _ _).alloc (qPq _) o).alloc zm o'))
  (AJ w a B q z)
  (fun pre x vs ac W k o o' hk ho a9 h=>by
   obtain⟨L,h1,h2,h3⟩:=h;exact⟨L,h1,zBl h2 o' ho a9,h3.put o' ho a9 za⟩)
  ?assign ?body ?done ?stop
 case assign=>
  rintro k pre x W vs K a5 hi rfl y;obtain⟨Wc,j⟩:=zB (W.alloc (qm (LPt.cl (zD2 q z x)).toArray TPt));have d:yI W.heap.size W Wc:=by rw[<-j];exact(yN _ _).alloc (qPq _) _
  have hX:Wc.heap[W.heap.size]? =qw (qm (LPt.cl (zD2 q z x)).toArray TPt):=by rw[<-j];exact zAh W _
  have G:=zH (fun ac h=>y ac Wc ⟨d.size,fun k o hk _=>(d.block k (zAd hk)).trans hk⟩ (Sc.below d) ⟨W.heap.size,h,hX,hi.keep d⟩);rw[qB0]at G⊢;obtain⟨s,u,pi,pj,r,hp⟩:=zK8 (zD2 q z x);rw[hp]at G j⊢;have a0:=yP (W.alloc (qm #[qW s,qV .u32 (xD u),qV qj (pi:Int),qV qj (pj:Int),qV qj (r:Int)] TPt)=Wc) j;unfold zZs zAx at G⊢;clear y hi hX d j hp;gi_wp2;rw[show W.alloc (qm #[qW s,qV .u32 (xD u),qV qj (pi:Int),qV qj (pj:Int),qV qj (r:Int)] TPt)=Wc from a0.out];exact G.out _ rfl
 case body=>
  rintro k pre x W vs ac a5 ⟨L,rfl,hL,hi⟩ Y;have aa:kG pre<n:=by have:=Y.length_le;rw[qPx,qQ8,qR7]at this;omega
  have hn:=HA.out.many;rw[qB0];obtain⟨s,u,pi,pj,r,hp⟩:=zK8 (zD2 q z x);rw[hp]at hL⊢;obtain⟨p,c,p1,c1,w1,w2,hb,hr,N,b,M,V,S⟩:=hi.push za ⟨s,u,pi,pj,r⟩ hL;rw[<-hp]at M;obtain⟨Z,O⟩:=yQ M (yO V S);have x0:=hb.cell;have P:(Builtin.append_ #[TPs,TPs] TPs #[qX p (kG pre) c,qX (qw ⟨W.heap.size,0,qx⟩) 1 1]).run yG (W.alloc (qm #[qW s,qV .u32 (xD u),qV qj (pi:Int),qV qj (pj:Int),qV qj (r:Int)] TPt))= .ok (qX p1 (kG pre+1) c1) w1:=hr;have x1:=N.cell;have f1:=N.frozen;have y0:W.cell? ⟨L,0,qx⟩=qw (qW s):=by simp[yM,hL,LPt]
  have y1:W.cell? ⟨L,1,qx⟩=qw (qV .u32 (xD u)):=by simp[yM,hL,LPt,zAx]
  have y2:W.cell? ⟨L,2,qx⟩=qw (qV qj (pi:Int)):=by simp[yM,hL,LPt]
  have y3:W.cell? ⟨L,3,qx⟩=qw (qV qj (pj:Int)):=by simp[yM,hL,LPt]
  have y4:W.cell? ⟨L,4,qx⟩=qw (qV qj (r:Int)):=by simp[yM,hL,LPt]
  unfold zZs zAx;obtain⟨m,hm⟩:=zB (kG pre);rw[hm]at x0 x1 P b;have HM:=zH hm;clear hi hL hp hr M V S hm hb N;gi_wp2_with (gi_at_builtin;refine zLt rfl (.tmp 13) (.tmp 15) TPs rfl rfl rfl P ?_);refine⟨O.out.1,O.out.2,?_⟩;show AI w w2 B (kG (pre++[x])) ((pre++[x]).map (zD2 q z));rw[qPx,qR7,qQd,List.map_singleton];exact Z.out
 case done=>
  rintro D W hD hi y;rw[qQ8]at hi;obtain⟨p,c,hb,ho⟩:=hi.own;have x0:=hb.cell;have f0:=hb.frozen;have y0:=hi.err.cell;have g0:=hi.err.frozen;have hz:=hi.size;have H:=zH (yO hb (yO ho hi));clear hb ho hi;gi_wp2;have a4:B≠D:=by rintro rfl;rw[show W.heap[B]? =_ from H.out.1]at y;injection y with y;cases y
  have X:B+1≠D:=by rintro rfl;rw[show W.heap[B+1]? =_ from H.out.2.2.err]at y;injection y with y;cases y
  obtain⟨F,hF⟩:=zB ((W.setCell ⟨B,0,qx⟩ (qX p n c)).setCell ⟨B+1,0,qx⟩ (qV qj 0));have l:F.heap[D]? =qw (qo (qw [])):=by rw[<-hF];exact(zAa (qQ2 X)).trans ((zAa (qQ2 a4)).trans y)
  have e1:Boxed F B TPs (qX p n c):=by
   rw[<-hF];exact(zAa za).trans (zA3 0 (qX p n c) H.out.1)
  have e2:Boxed F (B+1) 26 (qV qj 0):=by
   rw[<-hF];exact zA3 0 (qV qj 0) ((zAa za).trans H.out.2.2.err)
  have e3:yj LPt F (B+2) TPt p n c ((yK n).map (zD2 q z)):=by
   obtain⟨h3,h4⟩:=H.out.2.1;refine⟨h3,?_⟩;rcases h4 with h4|⟨g,a7,a1,hv,a2,a3,r⟩
   ·exact .inl h4
   ·exact .inr ⟨g,a7,a1,hv,a2,by rw[<-hF];exact(zAa za).trans ((zAa za).trans a3),r⟩
  have e4:yI B w F:=by rw[<-hF];exact(H.out.2.2.below.setCell (p:=⟨B,0,qx⟩) (qPq _) _).setCell (p:=⟨B+1,0,qx⟩) (qRu _) _
  have a6:B<=F.heap.size:=by rw[<-hF];simp;omega
  rw[hF];refine⟨zm,.inl ⟨_,_,rfl,run_takeDeferred l,?_⟩⟩;have r1:=Boxed.cell (show Boxed (F.putObj D (qo qx)) B TPs (qX p n c)from zBl e1 (qo qx) l rfl);have r2:=Boxed.cell (show Boxed (F.putObj D (qo qx)) (B+1) 26 (qV qj 0)from zBl e2 (qo qx) l rfl);refine⟨qZ #[qX p n c,qV qj 0],?_,p,c,rfl,(zQy e3 _ l rfl).base za,Rle.zAu _ e4 l za a6⟩;simp[results,f61,go_sem,r1,r2]
 case stop=>
  rintro D c pre W hD _ h _;exact h.elim
end Sm
namespace Sm
open Bt Front Wg St Tn
theorem rd5 {w:qy} {p:Option yB} {l:List Pt} (h:Kit.Rd LPt w p l) (k:Nat) (x:Pt) (d:l[k]? =qw x):∃g a,p=qw ⟨g,a,qx⟩/\w.cell? ⟨g,a+k*5,qx⟩=qw (qW x.s)/\w.cell? ⟨g,a+k*5+1,qx⟩=qw (zAx x.u)/\
  w.cell? ⟨g,a+k*5+2,qx⟩=qw (qV qj (x.i:Int))/\w.cell? ⟨g,a+k*5+3,qx⟩=qw (qV qj (x.j:Int))/\w.cell? ⟨g,a+k*5+4,qx⟩=qw (qV qj (x.r:Int)):=by
 obtain⟨g,a,c,b⟩:=h k x d;exact⟨g,a,c,b 0 z8,b 1 z8,b 2 z8,b 3 z8,b 4 z8⟩
theorem zZ3 (a n:Nat) (b:List T) (k:Nat) (c:k<n):((yK n).map (zD2 a b))[k]? =qw (zD2 a b k):=by
 rw[qP2,qSe c];rfl
theorem zZq (z n:Nat) (q:List T) (a:ByteArray) (A:Arc z q a n) (hl:kG q.flatten<=1000000) (w:qy):
  yC yG 14 #[qW a] w fun e w'=>e=qp (qZ #[qW ⟨q.flatten.toArray⟩,qV qj 0])/\yI w.heap.size w w':=by
 have N:=zH (zYp z n q a A w);have hn:=A.many;have HN:=zH A.len;clear A;go_enter func14,ntmps14;go_wp2_with fail;(with_reducible refine N.out.mono ?_);rintro e y ⟨p,c,rfl,ho,hb⟩;have a3:n<=c\/n=0:=by
  rcases qQy n with h|h
  ·exact .inr h
  ·obtain⟨_,_,_,_,h⟩:=ho.at_ h;exact .inl h
 obtain⟨b,B⟩:=zB y.heap.size;obtain⟨w2,o⟩:=zB (y.alloc (qm #[qY qx,qX qx 0 0] Rle.TB));have G:=yP (xw w2 b b []) (by rw[<-o,<-B];exact Rle.Bld.new y);have R:=yP (yI b y w2) (by rw[<-o,<-B];exact(yN _ _).alloc (qPq _) _);obtain⟨a2,Y,f,X⟩:=yS ho.rd hb B o;have a1:w.heap.size<=b:=by have:=hb.size;omega
 clear ho hb B o N;go_wp2;rw[f.out,show y.alloc (qm #[qY qx,qX qx 0 0] Rle.TB)=w2 from X.out];go_loopw [16] (fun iv wr=>∃k:Nat,k<=n/\iv=qV qj k/\yH (xw wr b b (q.take k).flatten)/\yH (yI b y wr)) (fun iv _=>n-(intOf iv).toNat)
 case atStart=>exact⟨0,qQq _,rfl,G,R⟩
 case round=>
  clear G R;obtain⟨k,hk,rfl,m,d⟩:=hrel;by_cases a0:k<n
  ·obtain⟨g,off,rfl,e0,e1,e2,e3,e4⟩:=rd5 (a2.out.below d.out f.out.symm) k _ (zZ3 z n q k a0);have hx:=HN.out;have O:k<kG q:=za
   have t:(q.take (k+1)).flatten=(q.take k).flatten++q.getD k []:=by
    rw[qQo O,qRz,qPw,qPu O];simp
   have L:(q.take (k+1)).flatten.length<=kG q.flatten:=by
    have:=qPs List.length (qPs List.flatten (qR9 (k+1) q));rw[qRz,qPx]at this;omega
   rw[t,qPx]at L;obtain⟨x,K⟩:=zB (q.getD k []);obtain⟨s,u,i,j,r,hp⟩:=zK8 (zD2 z q k);have hs:s=yw x:=by rw[<-K];exact(qPs Pt.s hp).symm
   rw[hp]at e0 e1 e2 e3 e4;simp only at e0 e1 e2 e3 e4;rw[K]at t L;have V:s.size=kG x:=by rw[hs,Rle.zCh]
   have a4:n<=c:=za
   obtain⟨W,hW⟩:=zB (wr.alloc (qm #[qW s,zAx u,qV qj (i:Int),qV qj (j:Int),qV qj (r:Int)] TPt));have I:yI b y W:=by rw[<-hW];exact d.out.alloc (by have:=d.out.size;have:=f.out;omega) _
   have P:=yP (xw W b b (q.take k).flatten) (by rw[<-hW];exact m.out.alloc _);obtain⟨M,F,HW⟩:=yR (Rle.zB8 b b (q.take k).flatten s W P.out za (by have:=I.size;have:=f.out;omega)) I hW;have HT:=yP ((q.take (k+1)).flatten=(q.take k).flatten++s.data.toList) (by rw[t,hs,xu]);unfold zAx at e1 HW;clear m d hx t L K hp hs V I hW;go_wp2_with fail;rw[show wr.alloc (qm #[qW s,qV .u32 (xD u),qV qj (i:Int),qV qj (j:Int),qV qj (r:Int)] TPt)=W from HW.out];(with_reducible refine M.out.mono ?_);rintro e w5 ⟨rfl,H,l,_,_⟩;obtain⟨Z,B5⟩:=yQ H (F.out.trans l);clear H l M P F HW e0 e1 e2 e3 e4;go_wp2;go_roundw
   case rel=>exact⟨k+1,za,by go_num,by rw[HT.out];exact Z,B5⟩
   case measure=>simp only[intOf];omega
  ·obtain rfl:k=n:=za
   obtain⟨S,F⟩:=yQ (Rle.zD0 b b (q.take k).flatten wr m.out (by have:=d.out.size;have:=f.out;omega)) d.out;clear m d;go_wp2_with fail;(with_reducible refine S.out.mono ?_);rintro e w5 ⟨rfl,l,_⟩;have B5:=zH (F.out.trans l);clear l S;go_wp2;go_ret2;refine⟨?_,Y.out.trans (B5.out.mono a1)⟩;rw[qQg (by rw[HN.out];exact qPq _)];rfl
end Sm
namespace Sm
open Bt Zr Front Sq Tn Rg
variable {b:Nat} {A B:qy}
structure RV (b:Nat) (A B:qy):Prop where
 old:∀(k:Nat) (o:Obj),A.heap[k]? =qw o->k≠b->B.heap[k]? =qw o
 below:yI b A B
 keeps:KeepsOthers A B
theorem RV.trans {C:qy} (h:RV b A B) (g:RV b B C):RV b A C:=⟨fun k o c a=>g.old k o (h.old k o c a) a,h.below.trans g.below,h.keeps.trans g.keeps⟩
theorem RV.of_below (h:yI A.heap.size A B) (c:b<=A.heap.size):RV b A B:=⟨fun k o a _=>(h.block k (zAd a)).trans a,h.mono c,⟨h.size,fun k o a _=>(h.block k (zAd a)).trans a⟩⟩
theorem RV.set {t:yA} {u:qz} (c:Boxed A b t u) (v:qz):RV b A (A.setCell ⟨b,0,qx⟩ v):=⟨fun k o a c=>(zAa c).trans a,(yN _ _).setCell (p:=⟨b,0,qx⟩) (qPq _) v,
 ⟨zm,fun k o a d=>(zAa (fun e=>by subst e;rw[show A.heap[k]? =_ from c]at a;injection a with a;subst a;cases d)).trans a⟩⟩
def EC (p:T) (_:qy) (a:Array qz):Prop:=a= #[qW (yw p)]
theorem qBa (b z q:Nat) (x:T) (hx:kG x<=100000) (h1:1<=q) (h9:q<=9) (hne:z≠b) (C:Nat->yA->Prop) (a0:¬C b 9) (a1:¬C z 3) (W:qy) (c:Boxed W b 9 (qW (yw x))) (f:Boxed W z 3 (qV qj (q:Int))):
  qBt yG 133 #[qY (qw ⟨b,0,qx⟩),qY (qw ⟨z,0,qx⟩)] EC (RV b) C (pcs (40*q) x) W:=by
 intro l J Jx hJ hY h0;refine qS6 func133 rfl trivial ?_ rfl;simp only[ntmps133,qQ0,qP3,qQx,Nat.reduceAdd,Nat.reduceSub,qQ9,qR,qRa,qRb,qQl,qQr];obtain⟨H,L,HJ,HY,H0⟩:=yT c f hJ hY h0;obtain⟨a,d⟩:=zB (40*q);have a4:IntKind.i64.wrap ((q:Int)*40)=(q:Int)*40:=qQb _ ⟨za,za⟩;have R:1<=a:=za
 have i:=zH d;rw[d];rw[d]at HY;clear c f hJ hY h0 d;gi_wp2;gi_loopw [5] (fun _ wr=>∃(pre:List T) (r:T),yH (pcs a x=pre++pcs a r)/\kG r<=kG x/\yH (Boxed wr b 9 (qW (yw r)))/\yH (Boxed wr z 3 (qV qj (q:Int)))/\yH (J pre wr))
  (fun _ wr=>Rle.zHd b wr)
 case atStart=>exact⟨[],x,zH rfl,qPq _,H,L,H0⟩
 case round=>
  clear H L H0;obtain⟨pre,r,g,a8,c,f,hj⟩:=hrel;have c0:=c.out.cell;have f0:=c.out.frozen;have c1:=f.out.cell;by_cases Z:r=[]
  ·subst Z;have he:yw []=(⟨#[]⟩:ByteArray):=by unfold yw;rfl
   rw[he]at c0;clear he;gi_wp2;go_end0;exact⟨⟨_,rfl⟩,.inl (by have h:=g.out;rw[zB6,qQ3]at h;rw[h];exact hj.out)⟩
  ·obtain⟨k,hk⟩:=zB (Rle.cut r a);have o:=zBq a r Z R;have u:=Rle.zJ2 r a Z za;have s:=Rle.qGb r a;rw[hk]at o u s;obtain⟨t,V⟩:=zB (yw r);have G:t.size=kG r:=by rw[<-V,Rle.zCh]
   have a3:t.toList.isEmpty=yE:=by rw[qS8,<-V,xu];cases r with
    |nil=>exact absurd rfl Z
    |cons y r=>rfl
   have a9:t.extract 0 k=yw (r.take k):=by rw[<-V,Rle.zNx]
   have a5:t.extract k t.size=yw (r.drop k):=by rw[<-V,Rle.zT7]
   have a7:(k:Int)<=(t.size:Int):=za
   have F:=yP (yC yG 134 #[qW t,qV qj ((q:Int)*40)] wr fun e w'=>e=qp (qV qj (k:Int))/\yI wr.heap.size wr w') (by
    have h:=Rle.qEj t ((q:Int)*40) za za za wr;have P:t.data.toList=r:=by rw[<-V,xu]
    rw[P,show(q:Int)*40=(a:Int)by have:=i.out;omega,hk]at h;rw[show(q:Int)*40=(a:Int)by have:=i.out;omega];exact h)
   rw[V]at c0;obtain⟨B,HT,HK⟩:=yR o (yO V G) (yO u s);have a6:(0:Int)<=(k:Int):=za
   have a2:t.size<=100000:=za
   clear o hk V G u s;gi_wp2_with fail;refine⟨trivial,(qQj.2 F.out).mono ?_⟩;rintro e w1 ⟨rfl,j⟩;have p:=c.out.lt;have X1:=yP (Boxed w1 b 9 (qW t)) (by rw[<-HT.out.1];exact(j.block b p).trans c.out);have L1:=yP (Boxed w1 z 3 (qV qj (q:Int))) ((j.block z f.out.lt).trans f.out);have I:=HJ.out _ _ _ hj.out (RV.of_below j (qP6 p));have w:pre++[r.take k]<+:pcs a x:=⟨pcs a (r.drop k),by rw[g.out,B.out,qQw];rfl⟩;obtain⟨fn,tmps,assign,body,hy,hR⟩:=HY.out pre (r.take k) w1 #[qW (yw (r.take k))] I rfl w;obtain⟨HR,O⟩:=yQ hR w;have K:Rle.zHd b wr=t.size:=by rw[<-HT.out.1];exact Rle.zGn c.out
   have S:=zH K;have c2:=X1.out.cell;clear j I hR w K c f hj c0 f0 c1 F p;gi_wp2;refine HR.out.mono ?_;rintro e X (⟨rfl,M,m⟩|⟨rfl,n⟩)
   ·have Y:=m.2 _ _ _ _ X1.out a0;have L3:=m.2 _ _ _ _ L1.out a1;have c3:=Boxed.cell (show Boxed X b 9 (qW t)from Y);have f3:=Boxed.frozen (show Boxed X b 9 (qW t)from Y);have X4:=yP (Boxed (X.setCell ⟨b,0,qx⟩ (qW (yw (r.drop k)))) b 9 (qW (yw (r.drop k)))) (zA3 0 _ Y);have L4:=yP (Boxed (X.setCell ⟨b,0,qx⟩ (qW (yw (r.drop k)))) z 3 (qV qj (q:Int))) ((zAa hne).trans L3);have J4:=zH (HJ.out _ _ _ M (RV.set (show Boxed X b 9 (qW t)from Y) (qW (yw (r.drop k)))));clear M m hy Y L3 c2;gi_wp2;go_roundw
    case rel=>
     refine⟨pre++[r.take k],r.drop k,zH ?_,by rw[qQn];omega,X4,L4,J4⟩;rw[g.out,B.out,qQw];rfl
    case measure=>
     rw[S.out,Rle.zGn X4.out,Rle.zCh,qQn];have:=HK.out;have:=HT.out.2;omega
   ·have N:=zH (yO O.out n);clear n hy c2;gi_wp2;refine qP5 (qSy rfl _ _ _) rfl ?_;exact⟨⟨_,rfl⟩,.inr ⟨_,N.out⟩⟩
end Sm
namespace Sm
open Hf Bt Zr Front Wg Ch Sl Sq St Tn Bk
theorem zTi {w w':qy} {B p k x n y:Nat} {e m:yA} {v o:qz} {xs z:List qz} (h:w.ownsRow B e k v n xs) (s:w.ownsRow p m x o y z) (hne:e≠m) (u:w.grownBy w' o.ownBlock):w'.ownsRow B e k v n xs:=by
 obtain⟨t,l⟩:=h;refine⟨t,?_⟩;rcases l with l|⟨g,j,d,hv,i,b,r⟩
 ·exact .inl l
 ·refine .inr ⟨g,j,d,hv,i,?_,r⟩;obtain⟨_,_,_,_,c⟩:=u;refine(c g (zAd b) (fun e=> ?_)).trans b;rcases s.2 with⟨q,_⟩|⟨g',F,G,f,_,a,_⟩
  ·rw[q]at e;cases e
  ·rw[f]at e;simp[Value.ownBlock]at e;subst e;rw[b]at a;injection a with a
   injection a with _ a _
   exact hne a
structure WS (w W:qy) (B:Nat) (q:Option yB) (m c1:Nat) (ls:List (List Bool)) (s:Option yB) (k c2:Nat) (us:List (BitVec 32)):Prop where
 bits:yj LB W B TB_ q m c1 ls
 sums:yg W B zCf s k c2 (us.map zAx)
 below:yI B w W
 size:B<=W.heap.size
section
variable {w W W':qy} {B m c1 k c2:Nat} {q s:Option yB} {ls:List (List Bool)} {us:List (BitVec 32)}
theorem WS.keep (h:WS w W B q m c1 ls s k c2 us) (a:yI W.heap.size W W'):WS w W' B q m c1 ls s k c2 us:=
 ⟨h.bits.below a (qPq _),h.sums.below a (qPq _),h.below.trans (a.mono h.size),qP4 h.size a.size⟩
theorem WS.bit (h:WS w W B q m c1 ls s k c2 us) (i:m<=100000) (x:List Bool):
  ∃b c' w',(Builtin.append_ #[zB5,zB5] zB5 #[qX q m c1,qX (qw ⟨W.heap.size,0,qx⟩) 1 1]).run yG (W.alloc (qm (LB.cl x).toArray TB_))= .ok (qX b (m+1) c') w'/\WS w w' B b (m+1) c' (ls++[x]) s k c2 us:=by
 have a:=h.keep ((yN W.heap.size W).alloc (qPq _) (qm (LB.cl x).toArray TB_));obtain⟨b,c',w',g,f,d⟩:=a.bits.app (ty:=zB5) zPo (qw ⟨W.heap.size,0,qx⟩) 1 1 [x] (Kit.zFo W x TB_) rfl (fun h=>by cases h) (by unfold maxLen;omega) za a.size;have c:=xL d a.size (fun k e=>a.bits.block k e);exact⟨b,c',w',g,⟨f,zTi a.sums a.bits z8 d,a.below.trans c,qP4 a.size c.size⟩⟩
theorem WS.sum (h:WS w W B q m c1 ls s k c2 us) (e:k<=100000) (x:BitVec 32):
  ∃b c' w',(Builtin.append_ #[224,224] 224 #[qX s k c2,qX (qw ⟨W.heap.size,0,qx⟩) 1 1]).run yG (W.alloc (qm #[zAx x] zCf))= .ok (qX b (k+1) c') w'/\WS w w' B q m c1 ls b (k+1) c' (us++[x]):=by
 have a:=h.keep ((yN W.heap.size W).alloc (qPq _) (qm #[zAx x] zCf));obtain⟨b,c',w',g,f,d⟩:=a.sums.app (ty:=224) qEn (qw ⟨W.heap.size,0,qx⟩) 1 1 [zAx x] (Kit.zAs W (zAx x) zCf) rfl (fun h=>by cases h) (zPv [x]) (by unfold maxLen;omega) za a.size;rw[show us.map zAx++[zAx x]=(us++[x]).map zAx by rw[qQd];rfl]at f;have c:=xL d a.size (fun k e=>a.sums.block k e);exact⟨b,c',w',g,⟨zTi a.bits a.sums z8 d,f,a.below.trans c,qP4 a.size c.size⟩⟩
end
theorem WS.rdb {w W:qy} {B m c1 k c2:Nat} {q s:Option yB} {ls:List (List Bool)} {d:List (BitVec 32)} (h:WS w W B q m c1 ls s k c2 d):RdB W q ls:=by
 refine⟨h.bits.rd,fun p c=> ?_⟩;subst c;rcases h.bits.2 with⟨b,_⟩|⟨g,e,f,hv,_,a,_⟩
 ·cases b
 ·injection hv with hv _ _
  injection hv with hv
  subst hv;exact⟨_,_,a⟩
theorem qG3 {w:qy} {B:Nat} {u v u' v':qz} (h:w.heap[B]? =qw (qm #[u,v] TB_)) (f:∀z∈[u',v'],z.oneCell'=yD):
  ∃w',(storeVar TB_ ⟨B,0,qx⟩ (.agg #[u',v'])).run yG w= .ok () w'/\w'.heap[B]? =qw (qm #[u',v'] TB_)/\(∀k,k≠B->w'.heap[k]? =w.heap[k]?)/\(∀D,D<=B->yI D w w'):=by
 obtain⟨c0,c1,d,e⟩:=zAf h;have a:=qSm (P:=yG) w B 0 TB_ #[u',v'] (fun j g=>by
  have i:j<2:=g;obtain rfl|rfl:j=0\/j=1:=za
  ·exact⟨by rw[show 0+0=0 from rfl,c0];rfl,d⟩
  ·exact⟨by rw[show 0+1=1 from rfl,c1];rfl,e⟩) zf (by simpa using f)
 refine⟨_,a,?_,?_,?_⟩
 ·exact zA3 1 _ (zA3 0 _ h)
 ·exact fun k c=>(zAa c).trans (zAa c)
 ·exact fun D b=>((yN _ w).setCell (p:=⟨B,0,qx⟩) b _).setCell (p:=⟨B,1,qx⟩) b _
def zC7 (x:T):qz:=qW (yw x)
theorem qAt (a:Nat) (h:a<10):((⟨#[80,77,107]⟩:ByteArray)++⟨#[UInt8.ofNat (48+a)]⟩)=xP (zBp a):=by
 have b:=zTz ⟨a,h⟩;unfold xP;simp only at b;rw[b];apply ByteArray.ext;simp
theorem zV5 (y n c:Nat) (p:Option yB) (z:List T) (w:qy) (h1:1<=y) (h9:y<=9) (hn:kG z=n) (bz:n<=20) (bp:n<=c) (hs:yZ w p (z.map zC7)) (he:∀x∈z,0<kG x/\Rle.Len x<=40*y):
  yC yG 50 #[qV qj (y:Int),qX p n c] w fun e w'=>e=qp (qZ #[qW (zCt y z),qV qj 0])/\yI w.heap.size w w':=by
 obtain⟨B,hB⟩:=zB w.heap.size;obtain⟨d,hd⟩:∃d:UInt8,UInt8.ofNat (48+y)=d:=⟨_,rfl⟩;have ad:(d.toNat:Int)=48+(y:Int):=by rw[<-hd,ofNat_toNat za];omega
 obtain⟨W1,a3⟩:=zB (w.alloc (qm #[qV ql (48+(y:Int))] 5));have aj:yZ W1 (qw ⟨B,0,qx⟩) ([d].map Kit.zAe):=by
  rw[<-a3,<-hB,<-ad];exact Kit.zAs w _ _
 have an:=Kit.Src.text (P:=yG) (n:=1) (c:=1) (src:=109) (dst:=9) aj rfl underlying109 underlying5 underlying9;have G:=qAt y za;rw[hd]at G;have bn:(⟨#[d]⟩:ByteArray).size=1:=rfl;have bk:(⟨#[80,77,107]⟩:ByteArray).size=3:=rfl;rw[show(⟨[d].toArray⟩:ByteArray)=⟨#[d]⟩from rfl]at an;obtain⟨bg,Y⟩:=zB (xP (zBp y));rw[Y]at G;have ba:IntKind.u8.wrap (y:Int)=(y:Int):=by show(y:Int)%256=_;omega
 have b7:IntKind.u8.wrap (48+(y:Int))=48+(y:Int):=by show(48+(y:Int))%256=_;omega
 obtain⟨HE,HS,HN,ax,HB,az⟩:=yU he hs hn a3 hB Y;have j1:¬(y:Int)<1:=za
 have j2:¬(9:Int)<(y:Int):=za
 rw[hB];clear hs hn he aj Y ad;go_enter func50,ntmps50;go_wp2;obtain⟨W2,a1⟩:=zB (W1.alloc (qm #[qW bg,qV qj 32] TB_));rw[a1];have M:yI B w W1:=by rw[<-ax.out,<-HB.out];exact(yN _ _).alloc (qPq _) _
 have N:B<=W1.heap.size:=by have:=M.size;have:=HB.out;omega
 have O:=yP (WS w W2 B (qw ⟨W1.heap.size,0,qx⟩) 1 1 [zBp y] qx 0 0 []) (by
  have h:=Kit.zNf (L:=LB) W1 [zBp y] TB_ B N (by unfold maxLen;simp);rw[show Kit.flat LB [zBp y]=[qW (xP (zBp y)),qV qj (kG (zBp y):Int)]from rfl,az.out,zDw]at h;rw[<-a1];exact⟨h,Kit.Own.start _ _ _,M.alloc N _,zq⟩)
 obtain⟨Z,hZ⟩:=zB W1.heap.size;rw[hZ]at O⊢;clear an G bn bk ba b7 a3 ax a1 M N hZ az;go_loopw [6,7,32] (fun lv sv iv wr=>∃(k c1 c2:Nat) (q s:Option yB),k<=n/\lv=qX q (k+1) c1/\sv=qX s k c2/\iv=qV qj k/\yH (WS w wr B q (k+1) c1 (zBp y::(z.take k).map zAn) s k c2 ((z.take k).map yu))) (fun _ _ iv _=>n-(intOf iv).toNat)
 case atStart=>exact⟨0,1,0,_,qx,qQq _,rfl,rfl,rfl,O⟩
 case round=>
  clear O;obtain⟨k,c1,c2,q,s,hk,rfl,rfl,rfl,r⟩:=hrel;by_cases bf:k<n
  ·have I:k<kG z:=by rw[HN.out];exact bf
   obtain⟨x,hx⟩:=zB (z[k]);obtain⟨bc,ah⟩:=HE.out x (by rw[<-hx];exact qQ I);obtain⟨g,off,rfl,e0⟩:=(HS.out.below (by rw[HB.out];exact r.out.below)) k (zC7 x) (by rw[qP2,qPu I,hx];rfl);have bo:=Rle.zBu x;have b9:(yw x).size=kG x:=Rle.zCh x;obtain⟨bl,a2⟩:=zB (zAn x);have HT:=yP ((z.take (k+1)).map zAn=(z.take k).map zAn++[bl]/\(z.take (k+1)).map yu=(z.take k).map yu++[yu x]) (by rw[qQo I,hx,qQd,qQd,<-a2];exact⟨rfl,rfl⟩)
   have a0:=yP (yC yG 17 #[qW (yw x),qV qj ((y:Int)*40)] wr fun e w'=>e=qp (qZ #[.agg #[qW (xP bl),qV qj (kG bl:Int)],qV qj 0])/\yI wr.heap.size wr w') (by
    have h:=zD8 (yw x) x (xu x) za za (40*y) za za ah wr;rw[a2,show((40*y:Nat):Int)=(y:Int)*40 by omega]at h;exact h)
   have ab:=zH (fun(W:qy)=>show yC yG 25 #[qW (yw x)] W fun e w'=>e=qp (zAx (yu x))/\yI W.heap.size W w' from by
    have h:=Crc.zG7 (yw x) (by unfold maxLen;omega) W;rw[xu]at h;exact h)
   obtain⟨sx,b5⟩:=zB (yw x);unfold zC7 at e0;rw[b5]at e0 a0 ab;have bq:IntKind.i64.wrap ((y:Int)*40)=(y:Int)*40:=qQb _ ⟨za,za⟩;have bw:n<=c:=bp;clear hx bc ah bo b9 a2 b5 I;go_wp2_with fail;(with_reducible refine a0.out.mono ?_);rintro e w3 ⟨rfl,f⟩;obtain⟨W3,a⟩:=zB (w3.alloc (qm #[qW (xP bl),qV qj (kG bl:Int)] TB_));have ao:=(r.out.keep f).keep (W':=W3) (by rw[<-a];exact(yN _ _).alloc (qPq _) _);obtain⟨q',c',w4,b0,ag⟩:=ao.bit za bl;have aa:(Builtin.append_ #[zB5,zB5] zB5 #[qX q (k+1) c1,qX (qw ⟨W3.heap.size,0,qx⟩) 1 1]).run yG (W3.alloc (qm #[qW (xP bl),qV qj (kG bl:Int)] TB_))= .ok (qX q' (k+1+1) c') w4:=b0;have am:=zH ag;have z3:W3.heap[w3.heap.size]? =qw (qm #[qW (xP bl),qV qj (kG bl:Int)] TB_):=by rw[<-a];exact zAh w3 _
   obtain⟨y0,y1,_,_⟩:=zAf z3;clear f ao b0 ag r a0;go_wp2_with (at_builtin;refine xA rfl (.tmp 46) (.tmp 48) zB5 rfl rfl rfl aa ?_);(with_reducible refine(ab.out _).mono ?_);rintro e w5 ⟨rfl,j⟩;obtain⟨s',d',w6,ak,m⟩:=(am.out.keep j).sum za (yu x);have b6:(Builtin.append_ #[224,224] 224 #[qX s k c2,qX (qw ⟨w5.heap.size,0,qx⟩) 1 1]).run yG (w5.alloc (qm #[qV .u32 (xD (yu x))] zCf))= .ok (qX s' (k+1) d') w6:=ak;have bh:=zH m;unfold zAx;clear j am ak m aa a y0 y1 z3 e0;go_wp2_with (at_builtin;refine xA rfl (.tmp 50) (.tmp 53) 224 rfl rfl rfl b6 ?_);go_roundw
   case rel=>exact⟨k+1,c',d',q',s',za,rfl,rfl,by go_num,by rw[HT.out.1,HT.out.2,<-qQr];exact bh⟩
   case measure=>simp only[intOf];omega
  ·obtain rfl:k=n:=za
   have u:=r.out;rw[qQg (by rw[HN.out];exact qPq _)]at u;obtain⟨m1,K⟩:=zB (num zH0 48);have bb:kG m1=48:=by rw[<-K,zAc]
   have b3:=yP (yC yG 24 #[.agg #[qW ⟨#[]⟩,qV qj 0],qV .u64 25779555029136,qV qj 48] wr fun e w'=>e=qp (qZ #[.agg #[qW (xP m1),qV qj (kG m1:Int)],qV qj 0])/\yI wr.heap.size wr w') (by
    have h:=zJo [] 25779555029136 48 wr za za zm;rw[qQl,show num 25779555029136 48=m1 from K]at h;exact h)
   obtain⟨S,hS⟩:=zB (zVr z);have bd:=S.isLt;have hSw:(S.toNat:Int)=IntKind.u64.wrap (xD S):=by unfold xD;rw[qSh _ ⟨za,za⟩]
   have F:m1++num S.toNat 32=zF z:=by rw[<-K,<-hS];rfl
   obtain⟨m2,H⟩:=zB (zF z);rw[H]at F;have ar:kG m2=80:=by rw[<-H,zRi]
   have ae:=zH (fun(W:qy)=>show yC yG 24 #[.agg #[qW (xP m1),qV qj (kG m1:Int)],qV .u64 (IntKind.u64.wrap (xD S)),qV qj 32] W fun e w'=>e=qp (qZ #[.agg #[qW (xP m2),qV qj (kG m2:Int)],qV qj 0])/\yI W.heap.size W w' from by
    have h:=zJo m1 S.toNat 32 W za za za;rw[F,hSw]at h;exact h)
   have a5:=zH (fun(W:qy) (hr:yZ W s ((z.map yu).map zAx))=>show yC yG 131 #[qX s k c2] W fun e w'=>e=qp (qV .u32 (xD S))/\w'=W from by
    have h:=zUb s k c2 (z.map yu) W (by rw[qQi,HN.out]) za hr;rw[show(z.map yu).foldl Crc.fold 0#32=S from hS]at h;exact h)
   obtain⟨l,b1,br⟩:=yR u H ar;clear r u K hS hSw F H bd bb ar;go_wp2_with fail;(with_reducible refine b3.out.mono ?_);rintro e w3 ⟨rfl,f⟩;obtain⟨b,hb⟩:=zB w3.heap.size;obtain⟨W3,a⟩:=zB (w3.alloc (qm #[qW (xP m1),qV qj (kG m1:Int)] TB_));have z3:W3.heap[b]? =qw (qm #[qW (xP m1),qV qj (kG m1:Int)] TB_):=by rw[<-a,<-hb];exact zAh w3 _
   have a7:yI w3.heap.size w3 W3.drew:=by rw[<-a];exact((yN _ _).alloc (qPq _) _).drew
   have b4:=zH ((l.out.keep f).keep a7);have bu:B<=b:=by rw[<-hb];exact(l.out.keep f).size
   obtain⟨av,b2⟩:=yQ (l.out.keep f) a7;have LD:=yP ((loadVar TB_ ⟨b,0,qx⟩).run yG W3.drew= .ok (.agg #[qW (xP m1),qV qj (kG m1:Int)]) W3.drew) (Kit.zHe (L:=LB) (x:=m1) (fun i hi=>by
    have bx:i<2:=hi;obtain rfl|rfl:i=0\/i=1:=za
    ·simp[yM,show W3.drew.heap[b]? =_ from z3,LB]
    ·simp[yM,show W3.drew.heap[b]? =_ from z3,LB]) (fun w=>zf) (fun w=>zf))
   have HA:=zH (a5.out W3.drew b4.out.sums.src);have Z3:=yP (W3.drew.heap[b]? =_) z3;obtain⟨au,a4⟩:=yQ a hb;clear f a7 z3 a hb a5 b3 l;go_wp2;rw[a4.out,show w3.alloc (qm #[qW (xP m1),qV qj (kG m1:Int)] TB_)=W3 from au.out];refine zS [] (fun _=>True) [0,0,2,4,13,16,32,32,127] 9<|zp [0,1,2,3]<|zt 62 (.agg #[qW (xP m1),qV qj (kG m1:Int)]) (zl 51 12 (LD.out))<|zk 63 (qX s k c2)<| ?_
   refine Kit.zZ2 (qw 64) (131) (#[qX s k c2]) (qV .u32 (xD S)) rfl rfl zf zf (HA.out) ?_;refine zk 65 (qV .u64 (IntKind.u64.wrap (xD S)))<|zn<|zx 4 66 24 #[.agg #[qW (xP m1),qV qj (kG m1:Int)],qV .u64 (IntKind.u64.wrap (xD S)),qV qj 32] (ae.out _)<| ?_
   rintro e w5 ⟨rfl,j⟩;have ac:=(j.block b (zAd Z3.out)).trans Z3.out;obtain⟨w6,R,ai,bj,a6⟩:=qG3 (u':=qW (xP m2)) (v':=qV qj (kG m2:Int)) ac (by simp[Value.oneCell']);refine⟨_,rfl,.inr (.inr trivial),?_⟩;refine zp [5]<|zk 61 (qZ #[.agg #[qW (xP m2),qV qj (kG m2:Int)],qV qj 0])<|zn<|zu 7 68 (qV qj 0)<|zp [6]<|zk 67 (.agg #[qW (xP m2),qV qj (kG m2:Int)])<|zn<|zw 8 qx (zr 51 12 67 (R)) (.inr (.inr trivial))<|zE<| ?_
   simp only[zP,zI,Act.put,qPz,qPy,qP0];have X:b<W3.drew.heap.size:=zAd Z3.out;have m:=av.out.keep ((b2.out.trans (j.mono (by rw[a4.out];exact qP6 X))).trans (a6 _ (by rw[a4.out];exact qPq _)));obtain⟨y0,y1,_,_⟩:=zAf ai;obtain⟨q',c',w7,af,o⟩:=m.bit za m2;have a9:(Builtin.append_ #[zB5,zB5] zB5 #[qX q (k+1) c1,qX (qw ⟨w6.heap.size,0,qx⟩) 1 1]).run yG (w6.alloc (qm #[qW (xP m2),qV qj (kG m2:Int)] TB_))= .ok (qX q' (k+1+1) c') w7:=af;have ap:((zBp y::z.map zAn)++[m2]).flatten.length<=1000000:=by
    rw[<-b1.out,qQr];show(zFa y z).length<=_;rw[zJ8];have:=zW3 z (fun x hx=>⟨(HE.out x hx).1,by have:=(HE.out x hx).2;omega⟩) (kG z);have:=HN.out;omega
   have aq:=o.bits.at_ za;have a8:=yP (yC yG 31 #[qX q' (k+1+1) c'] w7 fun e w'=>e=qp (qZ #[.agg #[qW (zCt y z),qV qj (kG (zFa y z):Int)],qV qj 0])/\yI w7.heap.size w7 w') (by
    have h:=zFs q' (k+1+1) c' ((zBp y::z.map zAn)++[m2]) w7 (by have:=HN.out;simp;omega) (by obtain⟨_,_,_,_,h⟩:=aq;exact h) za o.rdb ap;rw[<-b1.out]at h;exact h)
   obtain⟨b8,ay⟩:=yQ o.below o.size;obtain⟨t,ht⟩:=zB (zCt y z);obtain⟨L,hL⟩:=zB (kG (zFa y z));rw[ht,hL]at a8;have bi:=zH ht;clear j R ai bj a6 ac m af o ap aq b4 LD HA Z3 au av b2 ae X ht hL;go_wp2_with (at_builtin;refine xA rfl (.tmp 70) (.tmp 72) zB5 rfl rfl rfl a9 ?_);(with_reducible refine a8.out.mono ?_);rintro e w8 ⟨rfl,V⟩;have B8:=zH (b8.out.trans (V.mono ay.out));have Z8:=yP (B<=w8.heap.size) (qP4 ay.out V.size);clear V a8 y0 y1 a9;go_wp2;go_ret2;exact⟨by rw[bi.out];rfl,B8.out.alloc Z8.out _⟩
end Sm
namespace Sm
open Hf Bt Zr Front Ch Sq St Tn Rg
variable {w W W':qy} {B b n:Nat}
attribute [local go_sem] Oper.semAt_some
abbrev zAk:yA:=9
abbrev zBf:yA:=49
theorem zL2:Kit.One yG zBf zAk 16:=⟨underlying49,⟨qW ⟨#[]⟩,zf,rfl⟩⟩
theorem zZ (l:List T):∀u∈l.map zC7,u.oneCell'=yD:=by
 intro u a;obtain⟨x,_,rfl⟩:=qQf.1 a;rfl
structure CI (w W:qy) (B b n:Nat) (l:List T):Prop where
 own:∃p c,Boxed W B zBf (qX p n c)/\yg W (B+1) zAk p n c (l.map zC7)
 rv:RV b w W
 size:B+1<=W.heap.size
theorem CI.put {l:Nat} {xs:List T} {o:Obj} (h:CI w W B b n xs) (j:Obj) (q:W.heap[l]? =qw o) (s:o.isCells=yE) (G:w.heap.size<=l) (H:b<=w.heap.size):CI w (W.putObj l j) B b n xs:=by
 obtain⟨p,c,t,x⟩:=h.own;refine⟨⟨p,c,zBl t j q s,?_⟩,⟨fun k u i hne=> ?_,Rle.zAu j h.rv.below q za (by have:=h.rv.below.size;omega),⟨by rw[putObj_size];exact h.rv.below.size,fun k u i z=>by have d:=zAd i;rw[World.putObj_heap_other za];exact h.rv.keeps.same k u i z⟩⟩,by rw[putObj_size];exact h.size⟩
 ·obtain⟨y,m⟩:=x;refine⟨y,?_⟩;rcases m with m|⟨g,f,a,hv,e,F,r⟩
  ·exact .inl m
  ·exact .inr ⟨g,f,a,hv,e,zBl F j q s,r⟩
 ·have d:=zAd i;rw[World.putObj_heap_other za];exact h.rv.old k u i hne
theorem CI.rv' {xs:List T} (h:CI w W B b n xs) (g:RV b W W') (m:b<B):CI w W' B b n xs:=by
 obtain⟨p,c,i,j⟩:=h.own;refine⟨⟨p,c,g.old B _ i za,?_⟩,h.rv.trans g,qP4 h.size g.below.size⟩;obtain⟨k,f⟩:=j;refine⟨k,?_⟩;rcases f with f|⟨g',e,a,hv,d,l,r⟩
 ·exact .inl f
 ·exact .inr ⟨g',e,a,hv,d,g.old g' _ l za,r⟩
theorem CI.keep {xs:List T} (h:CI w W B b n xs) (g:yI W.heap.size W W') (a:b<B):CI w W' B b n xs:=
 h.rv' (RV.of_below g (by have:=h.size;omega)) a
theorem CI.push {xs:List T} (h:CI w W B b n xs) (hb:b<B) (a2:w.heap.size<=B) (hn:n<=100000) (x:T):
  ∃p c N c1 M w2,Boxed W B zBf (qX p n c)/\(Builtin.append_ #[zBf,zBf] zBf #[qX p n c,qX (qw ⟨W.heap.size,0,qx⟩) 1 1]).run yG (W.alloc (qm #[zC7 x] zAk))= .ok (qX N (n+1) c1) M/\
   Boxed M B zBf (qX p n c)/\M.setCell ⟨B,0,qx⟩ (qX N (n+1) c1)=w2/\CI w w2 B b (n+1) (xs++[x])/\KeepsOthers W w2/\Sc (fun k t=>k≠b/\(t=zAk\/t=zBf)) W w2:=by
 obtain⟨p,c,i,S⟩:=h.own;have hz:=h.size;have s:yI W.heap.size W (W.alloc (qm #[zC7 x] zAk)):=(yN _ _).alloc (qPq _) _;obtain⟨N,c1,M,Z,G,V⟩:=Kit.Own.app (ty:=zBf) zL2 (S.alloc (qm #[zC7 x] zAk)) (qw ⟨W.heap.size,0,qx⟩) 1 1 [zC7 x] (Kit.zAs W (zC7 x) zAk) rfl (fun h=>by cases h) (zZ [x]) (by unfold maxLen;omega) za zq;rw[show xs.map zC7++[zC7 x]=(xs++[x]).map zC7 by rw[qQd];rfl]at G;have L:=(S.alloc (qm #[zC7 x] zAk)).block;have a:yI (B+1) W M:=(s.mono hz).trans (xL V zq (fun k y=>L k y));have H:Boxed M B zBf (qX p n c):=(a.block B za).trans i;have d:∀(k:Nat) (o:Obj),W.heap[k]? =qw o->(∀O f,o≠qm O zAk f\/k<=B)->M.heap[k]? =qw o:=by
  intro k o y hne;obtain⟨_,_,_,_,I⟩:=V;refine(I k (by simp;have:=zAd y;omega) (fun e=> ?_)).trans ((s.block k (zAd y)).trans y);cases p with
  |none=>cases e
  |some q=>
   rcases S.2 with⟨X,_⟩|⟨g,u,F,hv,a1,m,_⟩
   ·cases X
   ·injection hv with hv _ _
    injection hv with hv
    subst hv;injection e with e
    subst e;rw[m]at y;injection y with y
    rcases hne _ _ with R|R
    ·exact R y.symm
    ·exact absurd R za
 refine⟨p,c,N,c1,M,_,i,Z,H,rfl,⟨⟨N,c1,zA3 0 _ H,?_⟩,?_,?_⟩,⟨?_,?_⟩,⟨?_,?_⟩⟩
 ·obtain⟨Y,P⟩:=G;refine⟨Y,?_⟩;rcases P with P|⟨g,u,F,hv,K,m,r⟩
  ·exact .inl P
  ·exact .inr ⟨g,u,F,hv,K,(zAa za).trans m,r⟩
 ·exact⟨fun k o y hne=>(zAa (by have:=zAd y;omega)).trans (d k o (h.rv.old k o y hne) (fun _ _=> .inr (by have:=zAd y;omega))),(h.rv.below.trans (a.mono za)).setCell (p:=⟨B,0,qx⟩) (by show b<=B;omega) _,⟨by have:=a.size;have:=h.rv.below.size;simp;omega,fun k o y z=>(zAa (by have:=zAd y;omega)).trans (d k o (h.rv.keeps.same k o y z) (fun _ _=> .inr (by have:=zAd y;omega)))⟩⟩
 ·have:=a.size;simp;omega
 ·have:=a.size;simp;exact this
 ·intro k o y z;have j:k≠B:=by rintro rfl;rw[show W.heap[k]? =_ from i]at y;injection y with y;subst y;cases z
  exact(zAa j).trans (d k o y (fun O f=> .inl (fun e=>by rw[e]at z;cases z)))
 ·have:=a.size;simp;exact this
 ·intro k O t f y z;by_cases l:k=b
  ·subst l;exact(zAa za).trans (d k _ y (fun _ _=> .inr za))
  ·have j:k≠B:=by rintro rfl;rw[show W.heap[k]? =_ from i]at y;injection y with y;injection y with _ y _;exact z ⟨l,.inr y.symm⟩
   exact(zAa j).trans (d k _ y (fun a0 f'=> .inl (fun e=>by injection e with _ e _;exact z ⟨l,.inl e⟩)))
theorem zVq (b q z:Nat) (x:T) (hx:kG x<=100000) (h1:1<=z) (h9:z<=9) (hne:q≠b) (w:qy) (a1:Boxed w b zAk (qW (yw x))) (a0:Boxed w q 3 (qV qj (z:Int))) (hn:kG (pcs (40*z) x)<=10000):
  yC yG 132 #[qX qx 0 0,.func (.func 133) #[] #[qY (qw ⟨b,0,qx⟩),qY (qw ⟨q,0,qx⟩)]] w fun e w'=>
   ∃p c,e=qp (qX p (kG (pcs (40*z) x)) c)/\yg w' w.heap.size zAk p (kG (pcs (40*z) x)) c ((pcs (40*z) x).map zC7)/\RV b w w':=by
 obtain⟨B,Z⟩:=zB w.heap.size;have d:b<B:=by rw[<-Z];exact a1.lt
 have G:q<B:=by rw[<-Z];exact a0.lt
 obtain⟨w2,a⟩:=zB (w.alloc (qm #[qX qx 0 0] zBf));have y:yI B w w2:=by rw[<-a,<-Z];exact(yN _ _).alloc (qPq _) _
 have a5:w2.heap.size=B+1:=by rw[<-a,zA,Z]
 have V:=yP (CI w w2 B b 0 []) ⟨⟨qx,0,by rw[<-a,<-Z];exact zAh w _,Kit.Own.start _ _ _⟩,RV.of_below (by rw[Z];exact y) za,za⟩;have X2:=yP (Boxed w2 b zAk (qW (yw x))) ((y.block b d).trans a1);have L2:=yP (Boxed w2 q 3 (qV qj (z:Int))) ((y.block q G).trans a0);obtain⟨P,HB⟩:=yQ a Z;obtain⟨S,hS⟩:=zB (pcs (40*z) x);rw[Z,hS];rw[hS]at hn;have HS:=zH hS;obtain⟨m,hm⟩:=zB (kG S);rw[hm]at hn⊢;have HM:=zH hm;clear hm;clear a1 a0 a y hS;refine(qQj (n:=3)).1 ?_;refine callsIn_of_wp_marks func132 rfl trivial ?_ rfl;simp only[ntmps132,qQ0,qP3,qQx,Nat.reduceAdd,Nat.reduceSub,qQ9,qR,qRa,qRb,qQl,qQr];gi_wp2;rw[show w.alloc (qm #[qX qx 0 0] zBf)=w2 from P.out];clear Z;refine zL9 (gf:=133) (lb:= #[qY (qw ⟨b,0,qx⟩),qY (qw ⟨q,0,qx⟩)]) rfl (enters_of func133 zf rfl)
  EC (RV b) (fun k t=>k≠b/\(t=zAk\/t=zBf)) S
  (fun _ _ h=>h.keeps)
  (fun _ _ _ h=>by obtain rfl:=h;rfl)
  (fun _ _ _ _ _ _ _ _ h=>h)
  (fun W hW=>by
   have h:=qBa b q z x hx h1 h9 hne (fun k t=>k≠b/\(t=zAk\/t=zBf)) (fun h=>h.1 rfl) (fun h=>absurd h.2 z8) W ((hW.block b za).trans X2.out) ((hW.block q za).trans L2.out);rw[HS.out]at h;exact h)
  (fun pre W=>CI w W B b (kG pre) pre)
  (fun _ _ _=>False)
  (fun pre W k o o' hk ho a2 hi=>hi.put o' ho a2 (by have:=HB.out;omega) (by have:=HB.out;omega))
  (fun _ _ _ _ _ _ _ _ _ h=>h)
  (fun pre A D hi hr=>hi.rv' hr d)
  (fun o o'=>V.out.keep (((yN _ _).alloc (qPq _) o).alloc zm o') d)
  (fun pre x vs ac W=>ac={tmps:= #[qX qx 0 0,.func (.func 133) #[] #[qY (qw ⟨b,0,qx⟩),qY (qw ⟨q,0,qx⟩)],qY (qw ⟨B,0,qx⟩),yJ,qX qx 0 0,qW (yw x),.func (.func 133) #[] #[qY (qw ⟨b,0,qx⟩),qY (qw ⟨q,0,qx⟩)],qW (yw x),yJ,yJ,yJ,yJ,yJ],defers:=[]}/\CI w W B b (kG pre) pre)
  (fun pre x vs ac W k o o' hk ho a2 h=>⟨h.1,h.2.put o' ho a2 (by have:=HB.out;omega) (by have:=HB.out;omega)⟩)
  ?assign ?body ?done ?stop
 case assign=>
  rintro k pre x W vs K R hi rfl hK;have L:=zH (fun ac h=>hK ac W ⟨qPq _,fun _ _ h _=>h⟩ (Sc.refl _ _) ⟨h,hi⟩);clear hK hi;gi_wp2;exact L.out _ rfl
 case body=>
  rintro k pre x W vs ac R ⟨rfl,hi⟩ I;have a3:kG pre<m:=by have:=I.length_le;rw[qPx,qR7,HM.out]at this;omega
  obtain⟨p,c,p1,c1,w1,w3,y,hr,f,M,F,u,s⟩:=hi.push d (by have:=HB.out;omega) za x;obtain⟨O,i⟩:=yQ F (yO u s);have x0:=y.cell;have l:(Builtin.append_ #[zBf,zBf] zBf #[qX p (kG pre) c,qX (qw ⟨W.heap.size,0,qx⟩) 1 1]).run yG (W.alloc (qm #[qW (yw x)] zAk))= .ok (qX p1 (kG pre+1) c1) w1:=hr;have x1:=f.cell;have f1:=f.frozen;obtain⟨j,hm⟩:=zB (kG pre);rw[hm]at x0 x1 l M;have HJ:=zH hm;clear hi hr F u s hm y f;gi_wp2_with (gi_at_builtin;refine zLt rfl (.tmp 8) (.tmp 10) zBf rfl rfl rfl l ?_);refine⟨i.out.1,i.out.2,?_⟩;show CI w w3 B b (kG (pre++[x])) (pre++[x]);rw[qPx,qR7];exact O.out
 case done=>
  rintro D W hD hi hK;rw[HM.out]at hi;obtain⟨p,c,y,ho⟩:=hi.own;have x0:=y.cell;have hz:=hi.size;have H:=zH (yO y (yO ho hi));clear y ho hi;gi_wp2;refine⟨zm,.inl ⟨_,_,rfl,run_takeDeferred hK,?_⟩⟩;have X:=H.out.2.2.put (qo qx) hK rfl (by have:=HB.out;omega) (by have:=HB.out;omega);refine⟨qX p m c,?_,p,c,rfl,?_,X.rv⟩
  ·simp[results,f132,go_sem]
  ·obtain⟨h3,h4⟩:=H.out.2.1;refine⟨h3,?_⟩;rcases h4 with h4|⟨g,Y,N,hv,a4,hg,r⟩
   ·exact .inl h4
   ·exact .inr ⟨g,Y,N,hv,za,zBl hg (qo qx) hK rfl,r⟩
 case stop=>
  rintro D c pre W hD _ h _;exact h.elim
end Sm
end Go.Proofs.YtppnakkaljbmbaaGreatDoor
