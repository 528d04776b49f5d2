/- Steps of a proof; no condition beyond what each states. -/
import Derived.Test.YtppnakkaljbmbaaGreatDoorZY00
import Derived.Deep.RegionHeld3
import Derived.Shelf.SlSortCmp.NoneTotal
import Derived.Shelf.SlicesG.Cmp
import Derived.Test.YtppnakkaljbmbaaGreatDoorZY06
set_option linter.unusedVariables false
set_option linter.unusedSimpArgs false
set_option maxRecDepth 100000
set_option maxHeartbeats 8000000
open List renaming length->kN
open Go.Proofs.YtppnakkaljbmbaaGreatDoor.Kit renaming Src->yt,Own->yu,zAg->yw,Own'->yx,zAe->xC,zAr->xG,zAs->xM,Rd->xP,zAq->xR,Lay->xV
open Go.Proofs.YtppnakkaljbmbaaGreatDoor.Rle renaming bs->xB
open Go.Proofs.YtppnakkaljbmbaaGreatDoor.Crc renaming sum->xD,U->xJ
open Go.Proofs.YtppnakkaljbmbaaGreatDoor.Bt renaming pk->xU
open Go.RowKit
open Go.Proofs.Tryz
open Go.Value renaming int->qX,string->qY,slice->qZ,pointer->qc,tuple->qg,bool->qh,nilFunc->qj
open Go.IntKind renaming i64->qm,u8->qo
open Go.Obj renaming cells->qp,deferred->qw
open Go.Ending renaming returned->qx
open Or renaming inr->qy,inl->qz
open Option renaming some->yA,none->yB
open Go renaming World->yC,Value->yD,TypeId->yE,Addr->yF,Calls->yG,undef->yN
open Bool renaming true->yH,false->yI
open Decidable renaming decide->yJ
open Go.Proofs.Tryz renaming prog->yK
open Go.RowKit renaming Hid->yL,Below->yM
open List renaming range->yO,replicate->yP
open Go.World renaming cell?->yQ
open Go.RowKit.Below renaming refl->yR
open And renaming intro->yS
namespace Go.Proofs.YtppnakkaljbmbaaGreatDoor
namespace Sm
open Hf Bt Zr Front Wg Ch Sl Sq St Tn Bk
theorem zTi {w w':yC} {B p k x n y:Nat} {e m:yE} {v o:yD} {xs z:List yD} (h:w.ownsRow B e k v n xs) (s:w.ownsRow p m x o y z) (hne:e≠m) (u:w.grownBy w' o.ownBlock):w'.ownsRow B e k v n xs:=by
 obtain⟨t,l⟩:=h;refine⟨t,?_⟩;rcases l with l|⟨g,j,d,hv,i,b,r⟩
 .exact qz l
 .refine qy ⟨g,j,d,hv,i,?_,r⟩;obtain⟨_,_,_,_,c⟩:=u;refine(c g (zAd b) (fun e=> ?_)).trans b;rcases s.2 with⟨q,_⟩|⟨g',F,G,f,_,a,_⟩
  .rw[q]at e;cases e
  .rw[f]at e;simp[Value.ownBlock]at e;subst e;rw[b]at a;injection a with a
   injection a with _ a _
   exact hne a
structure WS (w W:yC) (B:Nat) (q:Option yF) (m c1:Nat) (ls:List (List Bool)) (s:Option yF) (k c2:Nat) (us:List (BitVec 32)):Prop where
 bits:yx LB W B TB_ q m c1 ls
 sums:yu W B zCf s k c2 (us.map zAx)
 below:yM B w W
 size:B<=W.heap.size
section
variable {w W W':yC} {B m c1 k c2:Nat} {q s:Option yF} {ls:List (List Bool)} {us:List (BitVec 32)}
theorem WS.keep (h:WS w W B q m c1 ls s k c2 us) (a:yM W W W'):WS w W' B q m c1 ls s k c2 us:=
 ⟨h.bits.below a (qPq _),h.sums.below a (qPq _),h.below.trans (a.mono h.size),qP2 h.size a.size⟩
theorem WS.bit (h:WS w W B q m c1 ls s k c2 us) (i:m<=100000) (x:List Bool):
  ∃b c' w',(Builtin.append_ #[zB5,zB5] zB5 #[qZ q m c1,qZ (yA ⟨W,0,yB⟩) 1 1]).run yK (W.alloc (qp (LB.cl x).toArray TB_))= .ok (qZ b (m+1) c') w'/\WS w w' B b (m+1) c' (ls++[x]) s k c2 us:=by
 have a:=h.keep ((yR W.heap.size W).alloc (qPq _) (qp (LB.cl x).toArray TB_));obtain⟨b,c',w',g,f,d⟩:=a.bits.app (ty:=zB5) zPo (yA ⟨W,0,yB⟩) 1 1 [x] (Kit.zFo W x TB_) rfl (fun h=>by cases h) (by unfold maxLen;omega) za a.size;have c:=xR d a.size (fun k e=>a.bits.block k e);exact⟨b,c',w',g,⟨f,zTi a.sums a.bits qW d,a.below.trans c,qP2 a.size c.size⟩⟩
theorem WS.sum (h:WS w W B q m c1 ls s k c2 us) (e:k<=100000) (x:BitVec 32):
  ∃b c' w',(Builtin.append_ #[224,224] 224 #[qZ s k c2,qZ (yA ⟨W,0,yB⟩) 1 1]).run yK (W.alloc (qp #[zAx x] zCf))= .ok (qZ b (k+1) c') w'/\WS w w' B q m c1 ls b (k+1) c' (us++[x]):=by
 have a:=h.keep ((yR W.heap.size W).alloc (qPq _) (qp #[zAx x] zCf));obtain⟨b,c',w',g,f,d⟩:=a.sums.app (ty:=224) qEn (yA ⟨W,0,yB⟩) 1 1 [zAx x] (xM W (zAx x) zCf) rfl (fun h=>by cases h) (zPv [x]) (by unfold maxLen;omega) za a.size;rw[show us.map zAx++[zAx x]=(us++[x]).map zAx by rw[qQb];rfl]at f;have c:=xR d a.size (fun k e=>a.sums.block k e);exact⟨b,c',w',g,⟨zTi a.bits a.sums qW d,f,a.below.trans c,qP2 a.size c.size⟩⟩
end
theorem WS.rdb {w W:yC} {B m c1 k c2:Nat} {q s:Option yF} {ls:List (List Bool)} {d:List (BitVec 32)} (h:WS w W B q m c1 ls s k c2 d):RdB W q ls:=by
 refine⟨h.bits.rd,fun p c=> ?_⟩;subst c;rcases h.bits.2 with⟨b,_⟩|⟨g,e,f,hv,_,a,_⟩
 .cases b
 .injection hv with hv _ _
  injection hv with hv
  subst hv;exact⟨_,_,a⟩
theorem qG3 {w:yC} {B:Nat} {u v u' v':yD} (h:w.heap[B]? =yA (qp #[u,v] TB_)) (f:∀z∈[u',v'],z.oneCell'=yH):
  ∃w',(storeVar TB_ ⟨B,0,yB⟩ (.agg #[u',v'])).run yK w= .ok () w'/\w'.heap[B]? =yA (qp #[u',v'] TB_)/\(∀k,k≠B->w'.heap[k]? =w.heap[k]?)/\(∀D,D<=B->yM D w w'):=by
 obtain⟨c0,c1,d,e⟩:=zAf h;have a:=qSl (P:=yK) w B 0 TB_ #[u',v'] (fun j g=>by
  have i:j<2:=g;obtain rfl|rfl:j=0\/j=1:=za
  .exact⟨by rw[show 0+0=0 from rfl,c0];rfl,d⟩
  .exact⟨by rw[show 0+1=1 from rfl,c1];rfl,e⟩) zf (by simpa using f)
 refine⟨_,a,?_,?_,?_⟩
 .exact zA3 1 _ (zA3 0 _ h)
 .exact fun k c=>(zAa c).trans (zAa c)
 .exact fun D b=>((yR _ w).setCell (p:=⟨B,0,yB⟩) b _).setCell (p:=⟨B,1,yB⟩) b _
def zC7 (x:T):yD:=qY (xB x)
theorem qAt (a:Nat) (h:a<10):((⟨#[80,77,107]⟩:ByteArray)++⟨#[UInt8.ofNat (48+a)]⟩)=xU (zBp a):=by
 have b:=zTz ⟨a,h⟩;unfold xU;simp only at b;rw[b];apply ByteArray.ext;simp
theorem zV5 (y n c:Nat) (p:Option yF) (z:List T) (w:yC) (h1:1<=y) (h9:y<=9) (hn:kN z=n) (bz:n<=20) (bp:n<=c) (hs:yt w p (z.map zC7)) (he:∀x∈z,0<kN x/\Rle.Len x<=40*y):
  yG yK 50 #[y,qZ p n c] w fun e w'=>e=qx (qg #[qY (zCt y z),qX qm 0])/\yM w w w':=by
 obtain⟨B,hB⟩:=zB w.heap.size;obtain⟨d,hd⟩:∃d:UInt8,UInt8.ofNat (48+y)=d:=⟨_,rfl⟩;have ad:(d.toNat:Int)=48+(y:Int):=by rw[<-hd,ofNat_toNat za];omega
 obtain⟨W1,a3⟩:=zB (w.alloc (qp #[qX qo (48+(y:Int))] 5));have aj:yt W1 (yA ⟨B,0,yB⟩) ([d].map xC):=by
  rw[<-a3,<-hB,<-ad];exact xM w _ _
 have an:=Kit.Src.text (P:=yK) (n:=1) (c:=1) (src:=109) (dst:=9) aj rfl underlying109 underlying5 underlying9;have G:=qAt y za;rw[hd]at G;have bn:(⟨#[d]⟩:ByteArray).size=1:=rfl;have bk:(⟨#[80,77,107]⟩:ByteArray).size=3:=rfl;rw[show(⟨[d].toArray⟩:ByteArray)=⟨#[d]⟩from rfl]at an;obtain⟨bg,Y⟩:=zB (xU (zBp y));rw[Y]at G;have ba:IntKind.u8.wrap (y:Int)=(y:Int):=by show(y:Int)%256=_;omega
 have b7:IntKind.u8.wrap (48+(y:Int))=48+(y:Int):=by show(48+(y:Int))%256=_;omega
 obtain⟨HE,HS,HN,ax,HB,az⟩:=yZ he hs hn a3 hB Y;have j1:¬(y:Int)<1:=za
 have j2:¬(9:Int)<(y:Int):=za
 rw[hB];clear hs hn he aj Y ad;go_enter func50,ntmps50;go_wp2;obtain⟨W2,a1⟩:=zB (W1.alloc (qp #[qY bg,qX qm 32] TB_));rw[a1];have M:yM B w W1:=by rw[<-ax.out,<-HB.out];exact(yR _ _).alloc (qPq _) _
 have N:B<=W1.heap.size:=by have:=M.size;have:=HB.out;omega
 have O:=yT (WS w W2 B (yA ⟨W1,0,yB⟩) 1 1 [zBp y] yB 0 0 []) (by
  have h:=Kit.zNf (L:=LB) W1 [zBp y] TB_ B N (by unfold maxLen;simp);rw[show Kit.flat LB [zBp y]=[qY (xU (zBp y)),qX qm (kN (zBp y):Int)]from rfl,az.out,zDw]at h;rw[<-a1];exact⟨h,Kit.Own.start _ _ _,M.alloc N _,zq⟩)
 obtain⟨Z,hZ⟩:=zB W1.heap.size;rw[hZ]at O⊢;clear an G bn bk ba b7 a3 ax a1 M N hZ az;go_loopw [6,7,32] (fun lv sv iv wr=>∃(k c1 c2:Nat) (q s:Option yF),k<=n/\lv=qZ q (k+1) c1/\sv=qZ s k c2/\iv=qX qm k/\yL (WS w wr B q (k+1) c1 (zBp y::(z.take k).map zAn) s k c2 ((z.take k).map xD))) (fun _ _ iv _=>n-(intOf iv).toNat)
 case atStart=>exact⟨0,1,0,_,yB,qQl _,rfl,rfl,rfl,O⟩
 case round=>
  clear O;obtain⟨k,c1,c2,q,s,hk,rfl,rfl,rfl,r⟩:=hrel;by_cases bf:k<n
  .have I:k<kN z:=by rw[HN.out];exact bf
   obtain⟨x,hx⟩:=zB (z[k]);obtain⟨bc,ah⟩:=HE.out x (by rw[<-hx];exact qP9 I);obtain⟨g,off,rfl,e0⟩:=(HS.out.below (by rw[HB.out];exact r.out.below)) k (zC7 x) (by rw[qP3,qPu I,hx];rfl);have bo:=Rle.zBu x;have b9:(xB x).size=kN x:=Rle.zCh x;obtain⟨bl,a2⟩:=zB (zAn x);have HT:=yT ((z.take (k+1)).map zAn=(z.take k).map zAn++[bl]/\(z.take (k+1)).map xD=(z.take k).map xD++[xD x]) (by rw[qQp I,hx,qQb,qQb,<-a2];exact⟨rfl,rfl⟩)
   have a0:=yT (yG yK 17 #[qY (xB x),qX qm ((y:Int)*40)] wr fun e w'=>e=qx (qg #[.agg #[qY (xU bl),qX qm (kN bl:Int)],qX qm 0])/\yM wr wr w') (by
    have h:=zD8 (xB x) x (Rle.zBk x) za za (40*y) za za ah wr;rw[a2,show((40*y:Nat):Int)=(y:Int)*40 by omega]at h;exact h)
   have ab:=zH (fun(W:yC)=>show yG yK 25 #[qY (xB x)] W fun e w'=>e=qx (zAx (xD x))/\yM W W w' from by
    have h:=Crc.zG7 (xB x) (by unfold maxLen;omega) W;rw[Rle.zBk]at h;exact h)
   obtain⟨sx,b5⟩:=zB (xB x);unfold zC7 at e0;rw[b5]at e0 a0 ab;have bq:IntKind.i64.wrap ((y:Int)*40)=(y:Int)*40:=qQa _ ⟨za,za⟩;have bw:n<=c:=bp;clear hx bc ah bo b9 a2 b5 I;go_wp2_with fail;(with_reducible refine a0.out.mono ?_);rintro e w3 ⟨rfl,f⟩;obtain⟨W3,a⟩:=zB (w3.alloc (qp #[qY (xU bl),qX qm (kN bl:Int)] TB_));have ao:=(r.out.keep f).keep (W':=W3) (by rw[<-a];exact(yR _ _).alloc (qPq _) _);obtain⟨q',c',w4,b0,ag⟩:=ao.bit za bl;have aa:(Builtin.append_ #[zB5,zB5] zB5 #[qZ q (k+1) c1,qZ (yA ⟨W3,0,yB⟩) 1 1]).run yK (W3.alloc (qp #[qY (xU bl),qX qm (kN bl:Int)] TB_))= .ok (qZ q' (k+1+1) c') w4:=b0;have am:=zH ag;have z3:W3.heap[w3.heap.size]? =yA (qp #[qY (xU bl),qX qm (kN bl:Int)] TB_):=by rw[<-a];exact zAh w3 _
   obtain⟨y0,y1,_,_⟩:=zAf z3;clear f ao b0 ag r a0;go_wp2_with (at_builtin;refine xG rfl (.tmp 46) (.tmp 48) zB5 rfl rfl rfl aa ?_);(with_reducible refine(ab.out _).mono ?_);rintro e w5 ⟨rfl,j⟩;obtain⟨s',d',w6,ak,m⟩:=(am.out.keep j).sum za (xD x);have b6:(Builtin.append_ #[224,224] 224 #[qZ s k c2,qZ (yA ⟨w5,0,yB⟩) 1 1]).run yK (w5.alloc (qp #[qX .u32 (xJ (xD x))] zCf))= .ok (qZ s' (k+1) d') w6:=ak;have bh:=zH m;unfold zAx;clear j am ak m aa a y0 y1 z3 e0;go_wp2_with (at_builtin;refine xG rfl (.tmp 50) (.tmp 53) 224 rfl rfl rfl b6 ?_);go_roundw
   case rel=>exact⟨k+1,c',d',q',s',za,rfl,rfl,by go_num,by rw[HT.out.1,HT.out.2,<-qQs];exact bh⟩
   case measure=>exact z8
  .obtain rfl:k=n:=za
   have u:=r.out;rw[qQc (by rw[HN.out];exact qPq _)]at u;obtain⟨m1,K⟩:=zB (num zH0 48);have bb:kN m1=48:=by rw[<-K,zAc]
   have b3:=yT (yG yK 24 #[.agg #[qY ⟨#[]⟩,qX qm 0],qX .u64 25779555029136,qX qm 48] wr fun e w'=>e=qx (qg #[.agg #[qY (xU m1),qX qm (kN m1:Int)],qX qm 0])/\yM wr wr w') (by
    have h:=zJo [] 25779555029136 48 wr za za zm;rw[qQm,show num 25779555029136 48=m1 from K]at h;exact h)
   obtain⟨S,hS⟩:=zB (zVr z);have bd:=S.isLt;have hSw:(S.toNat:Int)=IntKind.u64.wrap (xJ S):=by unfold xJ;rw[qSh _ ⟨za,za⟩]
   have F:m1++num S.toNat 32=zF z:=by rw[<-K,<-hS];rfl
   obtain⟨m2,H⟩:=zB (zF z);rw[H]at F;have ar:kN m2=80:=by rw[<-H,zRi]
   have ae:=zH (fun(W:yC)=>show yG yK 24 #[.agg #[qY (xU m1),qX qm (kN m1:Int)],qX .u64 (IntKind.u64.wrap (xJ S)),qX qm 32] W fun e w'=>e=qx (qg #[.agg #[qY (xU m2),qX qm (kN m2:Int)],qX qm 0])/\yM W W w' from by
    have h:=zJo m1 S.toNat 32 W za za za;rw[F,hSw]at h;exact h)
   have a5:=zH (fun(W:yC) (hr:yt W s ((z.map xD).map zAx))=>show yG yK 131 #[qZ s k c2] W fun e w'=>e=qx (qX .u32 (xJ S))/\w'=W from by
    have h:=zUb s k c2 (z.map xD) W (by rw[qQj,HN.out]) za hr;rw[show(z.map xD).foldl Crc.fold 0#32=S from hS]at h;exact h)
   obtain⟨l,b1,br⟩:=yV u H ar;clear r u K hS hSw F H bd bb ar;go_wp2_with fail;(with_reducible refine b3.out.mono ?_);rintro e w3 ⟨rfl,f⟩;obtain⟨b,hb⟩:=zB w3.heap.size;obtain⟨W3,a⟩:=zB (w3.alloc (qp #[qY (xU m1),qX qm (kN m1:Int)] TB_));have z3:W3.heap[b]? =yA (qp #[qY (xU m1),qX qm (kN m1:Int)] TB_):=by rw[<-a,<-hb];exact zAh w3 _
   have a7:yM w3 w3 W3.drew:=by rw[<-a];exact((yR _ _).alloc (qPq _) _).drew
   have b4:=zH ((l.out.keep f).keep a7);have bu:B<=b:=by rw[<-hb];exact(l.out.keep f).size
   obtain⟨av,b2⟩:=yU (l.out.keep f) a7;have LD:=yT ((loadVar TB_ ⟨b,0,yB⟩).run yK W3.drew= .ok (.agg #[qY (xU m1),qX qm (kN m1:Int)]) W3.drew) (Kit.zHe (L:=LB) (x:=m1) (fun i hi=>by
    have bx:i<2:=hi;obtain rfl|rfl:i=0\/i=1:=za
    .simp[yQ,show W3.drew.heap[b]? =_ from z3,LB]
    .simp[yQ,show W3.drew.heap[b]? =_ from z3,LB]) (fun w=>zf) (fun w=>zf))
   have HA:=zH (a5.out W3.drew b4.out.sums.src);have Z3:=yT (W3.drew.heap[b]? =_) z3;obtain⟨au,a4⟩:=yU a hb;clear f a7 z3 a hb a5 b3 l;go_wp2;rw[a4.out,show w3.alloc (qp #[qY (xU m1),qX qm (kN m1:Int)] TB_)=W3 from au.out];refine zS [] (fun _=>True) [0,0,2,4,13,16,32,32,127] 9<|zp [0,1,2,3]<|zt 62 (.agg #[qY (xU m1),qX qm (kN m1:Int)]) (zl 51 12 (LD.out))<|zk 63 (qZ s k c2)<| ?_
   refine Kit.zZ2 (yA 64) (131) (#[qZ s k c2]) (qX .u32 (xJ S)) rfl rfl zf zf (HA.out) ?_;refine zk 65 (qX .u64 (IntKind.u64.wrap (xJ S)))<|zn<|zx 4 66 24 #[.agg #[qY (xU m1),qX qm (kN m1:Int)],qX .u64 (IntKind.u64.wrap (xJ S)),qX qm 32] (ae.out _)<| ?_
   rintro e w5 ⟨rfl,j⟩;have ac:=(j.block b (zAd Z3.out)).trans Z3.out;obtain⟨w6,R,ai,bj,a6⟩:=qG3 (u':=qY (xU m2)) (v':=qX qm (kN m2:Int)) ac (by simp[Value.oneCell']);refine⟨_,rfl,qy (qy trivial),?_⟩;refine zp [5]<|zk 61 (qg #[.agg #[qY (xU m2),qX qm (kN m2:Int)],qX qm 0])<|zn<|zu 7 68 (qX qm 0)<|zp [6]<|zk 67 (.agg #[qY (xU m2),qX qm (kN m2:Int)])<|zn<|zw 8 yB (zr 51 12 67 (R)) (qy (qy trivial))<|zE<| ?_
   simp only[zP,zI,Act.put,qPx,qPw,qPy];have X:b<W3.drew.heap.size:=zAd Z3.out;have m:=av.out.keep ((b2.out.trans (j.mono (by rw[a4.out];exact qP7 X))).trans (a6 _ (by rw[a4.out];exact qPq _)));obtain⟨y0,y1,_,_⟩:=zAf ai;obtain⟨q',c',w7,af,o⟩:=m.bit za m2;have a9:(Builtin.append_ #[zB5,zB5] zB5 #[qZ q (k+1) c1,qZ (yA ⟨w6,0,yB⟩) 1 1]).run yK (w6.alloc (qp #[qY (xU m2),qX qm (kN m2:Int)] TB_))= .ok (qZ q' (k+1+1) c') w7:=af;have ap:((zBp y::z.map zAn)++[m2]).flatten.length<=1000000:=by
    rw[<-b1.out,qQs];show(zFa y z).length<=_;rw[zJ8];have:=zW3 z (fun x hx=>⟨(HE.out x hx).1,by have:=(HE.out x hx).2;omega⟩) (kN z);have:=HN.out;omega
   have aq:=o.bits.at_ za;have a8:=yT (yG yK 31 #[qZ q' (k+1+1) c'] w7 fun e w'=>e=qx (qg #[.agg #[qY (zCt y z),qX qm (kN (zFa y z):Int)],qX qm 0])/\yM w7 w7 w') (by
    have h:=zFs q' (k+1+1) c' ((zBp y::z.map zAn)++[m2]) w7 (by have:=HN.out;simp;omega) (by obtain⟨_,_,_,_,h⟩:=aq;exact h) za o.rdb ap;rw[<-b1.out]at h;exact h)
   obtain⟨b8,ay⟩:=yU o.below o.size;obtain⟨t,ht⟩:=zB (zCt y z);obtain⟨L,hL⟩:=zB (kN (zFa y z));rw[ht,hL]at a8;have bi:=zH ht;clear j R ai bj a6 ac m af o ap aq b4 LD HA Z3 au av b2 ae X ht hL;go_wp2_with (at_builtin;refine xG rfl (.tmp 70) (.tmp 72) zB5 rfl rfl rfl a9 ?_);(with_reducible refine a8.out.mono ?_);rintro e w8 ⟨rfl,V⟩;have B8:=zH (b8.out.trans (V.mono ay.out));have Z8:=yT (B<=w8.heap.size) (qP2 ay.out V.size);clear V a8 y0 y1 a9;go_wp2;go_ret2;exact⟨by rw[bi.out];rfl,B8.out.alloc Z8.out _⟩
end Sm
namespace Sm
open Hf Bt Zr Front Ch Sq St Tn Rg
variable {w W W':yC} {B b n:Nat}
attribute [local go_sem] Oper.semAt_some
abbrev zAk:yE:=9
abbrev zBf:yE:=49
theorem zL2:Kit.One yK zBf zAk 16:=⟨underlying49,⟨qY ⟨#[]⟩,zf,rfl⟩⟩
theorem zZ (l:List T):∀u∈l.map zC7,u.oneCell'=yH:=by
 intro u a;obtain⟨x,_,rfl⟩:=qQg.1 a;rfl
structure CI (w W:yC) (B b n:Nat) (l:List T):Prop where
 own:∃p c,Boxed W B zBf (qZ p n c)/\yu W (B+1) zAk p n c (l.map zC7)
 rv:RV b w W
 size:B+1<=W.heap.size
theorem CI.put {l:Nat} {xs:List T} {o:Obj} (h:CI w W B b n xs) (j:Obj) (q:W.heap[l]? =yA o) (s:o.isCells=yI) (G:w.heap.size<=l) (H:b<=w.heap.size):CI w (W.putObj l j) B b n xs:=by
 obtain⟨p,c,t,x⟩:=h.own;refine⟨⟨p,c,zBl t j q s,?_⟩,⟨fun k u i hne=> ?_,Rle.zAu j h.rv.below q za (by have:=h.rv.below.size;omega),⟨by rw[putObj_size];exact h.rv.below.size,fun k u i z=>by have d:=zAd i;rw[World.putObj_heap_other za];exact h.rv.keeps.same k u i z⟩⟩,by rw[putObj_size];exact h.size⟩
 .obtain⟨y,m⟩:=x;refine⟨y,?_⟩;rcases m with m|⟨g,f,a,hv,e,F,r⟩
  .exact qz m
  .exact qy ⟨g,f,a,hv,e,zBl F j q s,r⟩
 .have d:=zAd i;rw[World.putObj_heap_other za];exact h.rv.old k u i hne
theorem CI.rv' {xs:List T} (h:CI w W B b n xs) (g:RV b W W') (m:b<B):CI w W' B b n xs:=by
 obtain⟨p,c,i,j⟩:=h.own;refine⟨⟨p,c,g.old B _ i za,?_⟩,h.rv.trans g,qP2 h.size g.below.size⟩;obtain⟨k,f⟩:=j;refine⟨k,?_⟩;rcases f with f|⟨g',e,a,hv,d,l,r⟩
 .exact qz f
 .exact qy ⟨g',e,a,hv,d,g.old g' _ l za,r⟩
theorem CI.keep {xs:List T} (h:CI w W B b n xs) (g:yM W W W') (a:b<B):CI w W' B b n xs:=
 h.rv' (RV.of_below g (by have:=h.size;omega)) a
theorem CI.push {xs:List T} (h:CI w W B b n xs) (hb:b<B) (a2:w.heap.size<=B) (hn:n<=100000) (x:T):
  ∃p c N c1 M w2,Boxed W B zBf (qZ p n c)/\(Builtin.append_ #[zBf,zBf] zBf #[qZ p n c,qZ (yA ⟨W,0,yB⟩) 1 1]).run yK (W.alloc (qp #[zC7 x] zAk))= .ok (qZ N (n+1) c1) M/\
   Boxed M B zBf (qZ p n c)/\M.setCell ⟨B,0,yB⟩ (qZ N (n+1) c1)=w2/\CI w w2 B b (n+1) (xs++[x])/\KeepsOthers W w2/\Sc (fun k t=>k≠b/\(t=zAk\/t=zBf)) W w2:=by
 obtain⟨p,c,i,S⟩:=h.own;have hz:=h.size;have s:yM W W (W.alloc (qp #[zC7 x] zAk)):=(yR _ _).alloc (qPq _) _;obtain⟨N,c1,M,Z,G,V⟩:=Kit.Own.app (ty:=zBf) zL2 (S.alloc (qp #[zC7 x] zAk)) (yA ⟨W,0,yB⟩) 1 1 [zC7 x] (xM W (zC7 x) zAk) rfl (fun h=>by cases h) (zZ [x]) (by unfold maxLen;omega) za zq;rw[show xs.map zC7++[zC7 x]=(xs++[x]).map zC7 by rw[qQb];rfl]at G;have L:=(S.alloc (qp #[zC7 x] zAk)).block;have a:yM (B+1) W M:=(s.mono hz).trans (xR V zq (fun k y=>L k y));have H:Boxed M B zBf (qZ p n c):=(a.block B za).trans i;have d:∀(k:Nat) (o:Obj),W.heap[k]? =yA o->(∀O f,o≠qp O zAk f\/k<=B)->M.heap[k]? =yA o:=by
  intro k o y hne;obtain⟨_,_,_,_,I⟩:=V;refine(I k (by simp;have:=zAd y;omega) (fun e=> ?_)).trans ((s.block k (zAd y)).trans y);cases p with
  |none=>cases e
  |some q=>
   rcases S.2 with⟨X,_⟩|⟨g,u,F,hv,a1,m,_⟩
   .cases X
   .injection hv with hv _ _
    injection hv with hv
    subst hv;injection e with e
    subst e;rw[m]at y;injection y with y
    rcases hne _ _ with R|R
    .exact R y.symm
    .exact absurd R za
 refine⟨p,c,N,c1,M,_,i,Z,H,rfl,⟨⟨N,c1,zA3 0 _ H,?_⟩,?_,?_⟩,⟨?_,?_⟩,⟨?_,?_⟩⟩
 .obtain⟨Y,P⟩:=G;refine⟨Y,?_⟩;rcases P with P|⟨g,u,F,hv,K,m,r⟩
  .exact qz P
  .exact qy ⟨g,u,F,hv,K,(zAa za).trans m,r⟩
 .exact⟨fun k o y hne=>(zAa (by have:=zAd y;omega)).trans (d k o (h.rv.old k o y hne) (fun _ _=>qy (by have:=zAd y;omega))),(h.rv.below.trans (a.mono za)).setCell (p:=⟨B,0,yB⟩) (by show b<=B;omega) _,⟨by have:=a.size;have:=h.rv.below.size;simp;omega,fun k o y z=>(zAa (by have:=zAd y;omega)).trans (d k o (h.rv.keeps.same k o y z) (fun _ _=>qy (by have:=zAd y;omega)))⟩⟩
 .have:=a.size;simp;omega
 .have:=a.size;simp;exact this
 .intro k o y z;have j:k≠B:=by rintro rfl;rw[show W.heap[k]? =_ from i]at y;injection y with y;subst y;cases z
  exact(zAa j).trans (d k o y (fun O f=>qz (fun e=>by rw[e]at z;cases z)))
 .have:=a.size;simp;exact this
 .intro k O t f y z;by_cases l:k=b
  .subst l;exact(zAa za).trans (d k _ y (fun _ _=>qy za))
  .have j:k≠B:=by rintro rfl;rw[show W.heap[k]? =_ from i]at y;injection y with y;injection y with _ y _;exact z ⟨l,qy y.symm⟩
   exact(zAa j).trans (d k _ y (fun a0 f'=>qz (fun e=>by injection e with _ e _;exact z ⟨l,qz e⟩)))
theorem zVq (b q z:Nat) (x:T) (hx:kN x<=100000) (h1:1<=z) (h9:z<=9) (hne:q≠b) (w:yC) (a1:Boxed w b zAk (qY (xB x))) (a0:Boxed w q 3 (qX qm (z:Int))) (hn:kN (pcs (40*z) x)<=10000):
  yG yK 132 #[qZ yB 0 0,.func (.func 133) #[] #[qc (yA ⟨b,0,yB⟩),qc (yA ⟨q,0,yB⟩)]] w fun e w'=>
   ∃p c,e=qx (qZ p (kN (pcs (40*z) x)) c)/\yu w' w.heap.size zAk p (kN (pcs (40*z) x)) c ((pcs (40*z) x).map zC7)/\RV b w w':=by
 obtain⟨B,Z⟩:=zB w.heap.size;have d:b<B:=by rw[<-Z];exact a1.lt
 have G:q<B:=by rw[<-Z];exact a0.lt
 obtain⟨w2,a⟩:=zB (w.alloc (qp #[qZ yB 0 0] zBf));have y:yM B w w2:=by rw[<-a,<-Z];exact(yR _ _).alloc (qPq _) _
 have a5:w2.heap.size=B+1:=by rw[<-a,zA,Z]
 have V:=yT (CI w w2 B b 0 []) ⟨⟨yB,0,by rw[<-a,<-Z];exact zAh w _,Kit.Own.start _ _ _⟩,RV.of_below (by rw[Z];exact y) za,za⟩;have X2:=yT (Boxed w2 b zAk (qY (xB x))) ((y.block b d).trans a1);have L2:=yT (Boxed w2 q 3 (qX qm (z:Int))) ((y.block q G).trans a0);obtain⟨P,HB⟩:=yU a Z;obtain⟨S,hS⟩:=zB (pcs (40*z) x);rw[Z,hS];rw[hS]at hn;have HS:=zH hS;obtain⟨m,hm⟩:=zB (kN S);rw[hm]at hn⊢;have HM:=zH hm;clear hm;clear a1 a0 a y hS;refine(qQi (n:=3)).1 ?_;refine callsIn_of_wp_marks func132 rfl trivial ?_ rfl;simp only[ntmps132,qQ2,qP4,qQy,Nat.reduceAdd,Nat.reduceSub,qR,qRa,qRb,qRc,qQm,qQs];gi_wp2;rw[show w.alloc (qp #[qZ yB 0 0] zBf)=w2 from P.out];clear Z;refine zL9 (gf:=133) (lb:= #[qc (yA ⟨b,0,yB⟩),qc (yA ⟨q,0,yB⟩)]) rfl (enters_of func133 zf rfl)
  EC (RV b) (fun k t=>k≠b/\(t=zAk\/t=zBf)) S
  (fun _ _ h=>h.keeps)
  (fun _ _ _ h=>by obtain rfl:=h;rfl)
  (fun _ _ _ _ _ _ _ _ h=>h)
  (fun W hW=>by
   have h:=qBa b q z x hx h1 h9 hne (fun k t=>k≠b/\(t=zAk\/t=zBf)) (fun h=>h.1 rfl) (fun h=>absurd h.2 qW) W ((hW.block b za).trans X2.out) ((hW.block q za).trans L2.out);rw[HS.out]at h;exact h)
  (fun pre W=>CI w W B b (kN pre) pre)
  (fun _ _ _=>False)
  (fun pre W k o o' hk ho a2 hi=>hi.put o' ho a2 (by have:=HB.out;omega) (by have:=HB.out;omega))
  (fun _ _ _ _ _ _ _ _ _ h=>h)
  (fun pre A D hi hr=>hi.rv' hr d)
  (fun o o'=>V.out.keep (((yR _ _).alloc (qPq _) o).alloc zm o') d)
  (fun pre x vs ac W=>ac={tmps:= #[qZ yB 0 0,.func (.func 133) #[] #[qc (yA ⟨b,0,yB⟩),qc (yA ⟨q,0,yB⟩)],qc (yA ⟨B,0,yB⟩),yN,qZ yB 0 0,qY (xB x),.func (.func 133) #[] #[qc (yA ⟨b,0,yB⟩),qc (yA ⟨q,0,yB⟩)],qY (xB x),yN,yN,yN,yN,yN],defers:=[]}/\CI w W B b (kN pre) pre)
  (fun pre x vs ac W k o o' hk ho a2 h=>⟨h.1,h.2.put o' ho a2 (by have:=HB.out;omega) (by have:=HB.out;omega)⟩)
  ?assign ?body ?done ?stop
 case assign=>
  rintro k pre x W vs K R hi rfl hK;have L:=zH (fun ac h=>hK ac W ⟨qPq _,fun _ _ h _=>h⟩ (Sc.refl _ _) ⟨h,hi⟩);clear hK hi;gi_wp2;exact L.out _ rfl
 case body=>
  rintro k pre x W vs ac R ⟨rfl,hi⟩ I;have a3:kN pre<m:=by have:=I.length_le;rw[qP0,qR8,HM.out]at this;omega
  obtain⟨p,c,p1,c1,w1,w3,y,hr,f,M,F,u,s⟩:=hi.push d (by have:=HB.out;omega) za x;obtain⟨O,i⟩:=yU F (yS u s);have x0:=y.cell;have l:(Builtin.append_ #[zBf,zBf] zBf #[qZ p (kN pre) c,qZ (yA ⟨W,0,yB⟩) 1 1]).run yK (W.alloc (qp #[qY (xB x)] zAk))= .ok (qZ p1 (kN pre+1) c1) w1:=hr;have x1:=f.cell;have f1:=f.frozen;obtain⟨j,hm⟩:=zB (kN pre);rw[hm]at x0 x1 l M;have HJ:=zH hm;clear hi hr F u s hm y f;gi_wp2_with (gi_at_builtin;refine zLt rfl (.tmp 8) (.tmp 10) zBf rfl rfl rfl l ?_);refine⟨i.out.1,i.out.2,?_⟩;show CI w w3 B b (kN (pre++[x])) (pre++[x]);rw[qP0,qR8];exact O.out
 case done=>
  rintro D W hD hi hK;rw[HM.out]at hi;obtain⟨p,c,y,ho⟩:=hi.own;have x0:=y.cell;have hz:=hi.size;have H:=zH (yS y (yS ho hi));clear y ho hi;gi_wp2;refine⟨zm,qz ⟨_,_,rfl,run_takeDeferred hK,?_⟩⟩;have X:=H.out.2.2.put (qw yB) hK rfl (by have:=HB.out;omega) (by have:=HB.out;omega);refine⟨qZ p m c,?_,p,c,rfl,?_,X.rv⟩
  .simp[results,f132,go_sem]
  .obtain⟨h3,h4⟩:=H.out.2.1;refine⟨h3,?_⟩;rcases h4 with h4|⟨g,Y,N,hv,a4,hg,r⟩
   .exact qz h4
   .exact qy ⟨g,Y,N,hv,za,zBl hg (qw yB) hK rfl,r⟩
 case stop=>
  rintro D c pre W hD _ h _;exact h.elim
end Sm
namespace Sm
open Hf Bt Zr Front Wg Ch Sq
theorem zJw (a:Nat) (b:1<=a) (c:a<=9) (w:yC):yG yK 49 #[a] w fun e w'=>e=qx (qh yH)/\w'=w:=by
 have d:(1:Int)<=(a:Int):=za
 have f:(a:Int)<=9:=za
 go_enter func49,ntmps49;go_wp2;go_ret;exact⟨rfl,rfl⟩
theorem zY (s:ByteArray) (v:Int) (w:yC):
  yG yK 52 #[qY s,qX qm v] w fun e w'=>e=qx (.func (.func 133) #[] #[qc (yA ⟨w,0,yB⟩),qc (yA ⟨w.heap.size+1,0,yB⟩)])/\w'=(w.alloc (qp #[qY s] zAk)).alloc (qp #[qX qm v] 3):=by
 have b:∀(fn:Fn) (first a:Array yD) (w:yC),(Instr.makeFunc fn first a).run yK w= .ok (.func fn first a) w:=fun _ _ _ _=>rfl;go_enter func52,ntmps52;go_wp2;go_ret;exact⟨rfl,rfl⟩
theorem zS5 (b d a:Nat) (x:T) (q:kN x<=100000) (k:1<=a) (o:a<=9) (hne:d≠b) (w:yC) (g:Boxed w b zAk (qY (xB x))) (f:Boxed w d 3 (qX qm (a:Int))) (j:kN (pcs (40*a) x)<=10000):
  yG yK 51 #[.func (.func 133) #[] #[qc (yA ⟨b,0,yB⟩),qc (yA ⟨d,0,yB⟩)]] w fun e w'=>
   ∃p c,e=qx (qZ p (kN (pcs (40*a) x)) c)/\yu w' w.heap.size zAk p (kN (pcs (40*a) x)) c ((pcs (40*a) x).map zC7)/\RV b w w':=by
 have H:=zH (zVq b d a x q k o hne w g f j);obtain⟨S,h⟩:=zB (pcs (40*a) x);rw[h]at H⊢;obtain⟨m,i⟩:=zB (kN S);rw[i]at H⊢;clear g f j h i;go_enter func51,ntmps51;go_wp2_with fail;(with_reducible refine H.out.mono ?_);rintro e r ⟨p,c,rfl,l,n⟩;go_wp2;go_ret;exact⟨p,c,rfl,l,n⟩
theorem zZ5 (q:Nat) (s:ByteArray) (x:T) (N:s.data.toList=x) (Z:kN x<=500) (F:1<=q) (G:q<=9) (w:yC):
  yG yK 9 #[qY s,q] w fun e w'=>e=qx (qg #[qY (zCt q (pcs (40*q) x)),qX qm 0])/\yM w w w':=by
 obtain⟨B,y⟩:=zB w.heap.size;obtain⟨w2,a⟩:=zB ((w.alloc (qp #[qY s] zAk)).alloc (qp #[q] 3));have Y:w2.heap.size=B+2:=by rw[<-a,zA,zA,y]
 have r:yM B w w2:=by rw[<-a,<-y];exact((yR _ _).alloc (qPq _) _).alloc (by rw[zA];omega) _
 have m:Boxed w2 B zAk (qY (xB x)):=by
  rw[<-N,Rle.zJ5,<-a,<-y];exact(Lib.alloc_old _ _ _ (by rw[zA];omega)).trans (zAh w _)
 have k:Boxed w2 (B+1) 3 (qX qm (q:Int)):=by
  rw[<-a,show B+1=(w.alloc (qp #[qY s] zAk)).heap.size by rw[zA,y]];exact zAh _ _
 have d:=zOh (40*q) za x;have b:=zJq (40*q) za x;have z:=zH (zS5 B (B+1) q x za F G za w2 m k za);obtain⟨S,L⟩:=zB (pcs (40*q) x);rw[L]at z d b⊢;obtain⟨n,H⟩:=zB (kN S);rw[H]at z d;have i:=zH (zY s (q:Int) w);rw[y,a]at i;obtain⟨l,f⟩:=yU (zJw q F G w) (fun(p:Option yF) (c:Nat) (j:n<=c) (W:yC) (X:yt W p (S.map zC7))=>zV5 q n c p S W F G H za j X b);obtain⟨t,M⟩:=zB (zCt q S);rw[M]at f⊢;have u:=zH r;rw[y];clear a m k b L H M N r;go_enter func9,ntmps9;go_wp2_with fail;(with_reducible refine l.out.mono ?_);rintro e w1 ⟨rfl,rfl⟩;go_wp2_with fail;(with_reducible refine i.out.mono ?_);rintro e w3 ⟨rfl,rfl⟩;go_wp2_with fail;(with_reducible refine z.out.mono ?_);rintro e O ⟨p,c,rfl,I,g⟩;have j:n<=c:=by
  rcases qQz n with h|h
  .omega
  .obtain⟨_,_,_,_,h,_⟩:=I.at_ h;exact h
 obtain⟨K,P⟩:=yU (f.out p c j O I.src) (u.out.trans g.below);have V:=yT (B<=O.heap.size) (by have:=g.below.size;omega);clear I g z f i l;go_wp2_with fail;(with_reducible refine K.out.mono ?_);rintro e w5 ⟨rfl,o⟩;have R:=zH (P.out.trans (o.mono V.out));clear o K;go_wp2;go_ret2;exact⟨rfl,R.out⟩
end Sm
namespace Ix2
open Bt Zr Wg Ch St Tn Sm
open Front (ival)
theorem qKb {α:Type} {L:xV α} {ty e:yE} {bytes:Nat} (o:Kit.zVx yK ty e L.k bytes) (i:bytes<=1000) {w:yC} {B:Nat} {a:Option yF} {n c:Nat} {ls:List α} (h:yx L w B e a n c ls) (x:α) (m:B<=w.heap.size) (s:n<=100000) {z:Nat} (r:w.heap.size=z):
  ∃a' c' w',(Builtin.append_ #[ty,ty] ty #[qZ a n c,qZ (yA ⟨z,0,yB⟩) 1 1]).run yK (w.alloc (qp (L.cl x).toArray e))= .ok (qZ a' (n+1) c') w'/\
   yx L w' B e a' (n+1) c' (ls++[x])/\yM B w w'/\(∀b,b<w.heap.size->(Value.slice a n c).ownBlock≠yA b->w'.heap[b]? =w.heap[b]?):=by
 subst r;have q:xP L (w.alloc (qp (L.cl x).toArray e)) (yA ⟨w,0,yB⟩) [x]:=Kit.zFo w x e;have g:yx L (w.alloc (qp (L.cl x).toArray e)) B e a n c ls:=h.alloc _;have d:(n+1)*bytes<=140737488355328:=qP2 (Nat.mul_le_mul (show n+1<=100001 by omega) i) qW;obtain⟨a',c',w',j,l,f⟩:=g.app (ty:=ty) o (yA ⟨w,0,yB⟩) 1 1 [x] q rfl (fun h=>by cases h) (by unfold maxLen;omega) d (by rw[zA];omega);exact⟨a',c',w',j,l,((yR _ _).alloc m _).trans (xR f (by rw[zA];omega) (fun k p=>g.block k p)),fun b d hne=>(f.block b (by rw[zA];omega) (fun h=>hne h.symm)).trans (Lib.alloc_old _ _ _ d)⟩
structure Bk4 where
 s:ByteArray
 u:BitVec 32
 i:Nat
 j:Nat
def LBk:xV Bk4 where
 k:=4
 pos:=za
 cl x:=[qY x.s,zAx x.u,qX qm (x.i:Int),qX qm (x.j:Int)]
 len _:=rfl
 one m:=by simp[Value.oneCell',zAx]
def qJj (a:List T) (k:Nat):Bk4:=⟨xB (a.getD k []),xD (a.getD k []),pos a k,pos a (k+1)⟩
abbrev TBk:yE:=105
abbrev TBs:yE:=100
theorem qO3:Kit.zVx yK TBs TBk LBk.k 40:=⟨underlying100,⟨.agg #[qY ⟨#[]⟩,qX .u32 0,qX qm 0,qX qm 0],zf,rfl⟩⟩
theorem qMc (y n:Nat) (q:List T) (a:ByteArray) (A:Arc y q a n) (w:yC):
  yG yK 53 #[qY a] w fun e w'=>∃p c,e=qx (qg #[qZ p n c,qX qm 0])/\yx LBk w' w.heap.size TBk p n c ((yO n).map (qJj q))/\yM w w w':=by
 have f:=zH (zYp y n q a A w);have hn:=A.many;obtain⟨B,hB⟩:=zB w.heap.size;rw[hB]at f⊢;have HB:=zH hB;clear A hB;go_enter func53,ntmps53;go_wp2_with fail;(with_reducible refine f.out.mono ?_);rintro e w1 ⟨p,c,rfl,ho,hb⟩;have a0:n<=c\/n=0:=by
  rcases qQz n with h|h
  .exact qy h
  .obtain⟨_,_,_,_,h⟩:=ho.at_ h;exact qz h
 obtain⟨E,hE⟩:=zB w1.heap.size;obtain⟨HE,K,L⟩:=yV hE ho.rd hb;have F:B<=E:=by have:=hb.size;have:=HB.out;omega
 clear ho hb hE f;go_wp2;go_loopw [2,14] (fun ov iv wr=>∃(k c':Nat) (P:Option yF),k<=n/\iv=qX qm k/\ov=qZ P k c'/\yL (yx LBk wr E TBk P k c' ((yO k).map (qJj q)))/\yL (yM E w1 wr)) (fun _ iv _=>n-(intOf iv).toNat)
 case atStart=>exact⟨0,0,yB,qQl _,rfl,rfl,zH (Kit.Own'.start _ _ _),zH (yR _ _)⟩
 case round=>
  obtain⟨k,c',P,hk,rfl,rfl,d,b⟩:=hrel;by_cases H:k<n
  .obtain⟨g,off,rfl,V,N,X,Y,Z⟩:=rd5 (K.out.below b.out HE.out.symm) k _ (zZ3 y n q k H);obtain⟨s,u,i,j,O⟩:∃s u i j,qJj q k=⟨s,u,i,j⟩:=⟨_,_,_,_,rfl⟩;obtain⟨r,hr⟩:=zB (40*y);have hp:zD2 y q k=⟨s,u,i,j,r⟩:=by rw[<-hr];unfold qJj at O;unfold zD2;injection O with h1 h2 h3 h4;rw[h1,h2,h3,h4]
   rw[hp]at V N X Y Z;simp only at V N X Y Z;have a1:n<=c:=za
   obtain⟨W,z⟩:=zB (wr.alloc (qp #[qY s,zAx u,i,j,r] TPt));have M:E<=wr.heap.size:=by have:=b.out.size;have:=HE.out;omega
   have x:W.heap.size=wr.heap.size+1:=by rw[<-z,zA]
   have t:yM E w1 W:=by rw[<-z];exact b.out.alloc M _
   obtain⟨p3,c3,w3,l,o,G,_⟩:=qKb qO3 za (w:=W) (by rw[<-z];exact d.out.alloc _) ⟨s,u,i,j⟩ za za x;have S:=yT (yx LBk w3 E TBk p3 (k+1) c3 ((yO (k+1)).map (qJj q))) (by rw[qQw,qQb];simp only[qQe,qSp];rw[O];exact o);have R:=zH (t.trans G);have m:(wr.alloc (qp #[qY s,qX .u32 (xJ u),i,j,r] TPt)).alloc (qp #[qY s,qX .u32 (xJ u),i,j] TBk)=W.alloc (qp (LBk.cl ⟨s,u,i,j⟩).toArray TBk):=by rw[<-z];rfl
   rw[<-m]at l;unfold zAx at N;have I:=zH l;clear d b O hp z x t o G m l hr;go_wp2_with (at_builtin;refine xG rfl (.tmp 18) (.tmp 21) TBs rfl rfl rfl I.out ?_);clear V N X Y Z;go_roundw
   case rel=>exact⟨k+1,c3,p3,za,by go_num,rfl,S,R⟩
   case measure=>exact z8
  .obtain rfl:k=n:=za
   obtain⟨S,R⟩:=yU d.out b.out;clear d b;go_wp2;go_ret2;refine⟨P,c',rfl,S.out.base F,L.out.trans (R.out.mono F)⟩
theorem qMk (q n:Nat) (O:List T) (a:ByteArray) (A:Arc q O a n) (w:yC):
  yG yK 54 #[qY a] w fun e w'=>∃p c,e=qx (qg #[qZ p n c,qX qm 0])/\yu w' w.heap.size 3 p n c ((yP n (40*q)).map ival)/\yM w w w':=by
 have l:=zH (zYp q n O a A w);have hn:=A.many;obtain⟨B,Z⟩:=zB w.heap.size;rw[Z]at l⊢;have HB:=zH Z;clear A Z;go_enter func54,ntmps54;go_wp2_with fail;(with_reducible refine l.out.mono ?_);rintro e w1 ⟨p,c,rfl,ho,hb⟩;have a0:n<=c\/n=0:=by
  rcases qQz n with h|h
  .exact qy h
  .obtain⟨_,_,_,_,h⟩:=ho.at_ h;exact qz h
 obtain⟨E,hE⟩:=zB w1.heap.size;obtain⟨HE,I,K⟩:=yV hE ho.rd hb;have x:B<=E:=by have:=hb.size;have:=HB.out;omega
 clear ho hb hE l;go_wp2;go_loopw [2,14] (fun ov iv wr=>∃(k c':Nat) (N:Option yF),k<=n/\iv=qX qm k/\ov=qZ N k c'/\yL (yu wr E 3 N k c' ((yP k (40*q)).map ival))/\yL (yM E w1 wr)) (fun _ iv _=>n-(intOf iv).toNat)
 case atStart=>exact⟨0,0,yB,qQl _,rfl,rfl,zH (Kit.Own.start _ _ _),zH (yR _ _)⟩
 case round=>
  obtain⟨k,c',N,hk,rfl,rfl,f,b⟩:=hrel;by_cases G:k<n
  .obtain⟨g,off,rfl,S,z,V,X,Y⟩:=rd5 (I.out.below b.out HE.out.symm) k _ (zZ3 q n O k G);obtain⟨r,M⟩:=zB (40*q);obtain⟨s,u,i,j,hp⟩:∃s u i j,zD2 q O k=⟨s,u,i,j,r⟩:=by rw[<-M];exact⟨_,_,_,_,rfl⟩
   rw[hp]at S z V X Y;simp only at S z V X Y;have a1:n<=c:=za
   obtain⟨W,y⟩:=zB (wr.alloc (qp #[qY s,zAx u,i,j,r] TPt));have L:E<=wr.heap.size:=by have:=b.out.size;have:=HE.out;omega
   have t:W.heap.size=wr.heap.size+1:=by rw[<-y,zA]
   have o:yM E w1 W:=by rw[<-y];exact b.out.alloc L _
   obtain⟨p3,c3,w3,d,m,F⟩:=zMb (w:=W) (by rw[<-y];exact f.out.alloc _) r za za;rw[t]at d;have R:=yT (yu w3 E 3 p3 (k+1) c3 ((yP (k+1) (40*q)).map ival)) (by rw[qUc,M];rw[M]at m;exact m);have P:=zH (o.trans F);rw[<-y]at d;unfold zAx at z d;have H:=zH d;clear f b hp y t o m F d M;go_wp2_with (at_builtin;refine xG rfl (.tmp 18) (.tmp 21) 23 rfl rfl rfl H.out ?_);clear S z V X Y;go_roundw
   case rel=>exact⟨k+1,c3,p3,za,by go_num,rfl,R,P⟩
   case measure=>exact z8
  .obtain rfl:k=n:=za
   obtain⟨R,P⟩:=yU f.out b.out;clear f b;go_wp2;go_ret2;refine⟨N,c',rfl,R.out.base x,K.out.trans (P.out.mono x)⟩
end Ix2
namespace Ix2
open Bt Zr Wg Ch St Tn Sm
open Front (ival)
variable {w:yC} {n:Nat}
structure En where
 i:Nat
 r:Nat
 f:Nat
 l:Nat
 u:BitVec 32
def LEn:xV En where
 k:=5
 pos:=za
 cl x:=[qX qm (x.i:Int),qX qm (x.r:Int),qX qm (x.f:Int),qX qm (x.l:Int),zAx x.u]
 len _:=rfl
 one m:=by simp[Value.oneCell',zAx]
abbrev TEn:yE:=107
abbrev TEs:yE:=30
theorem qM:Kit.zVx yK TEs TEn LEn.k 40:=⟨underlying30,⟨.agg #[qX qm 0,qX qm 0,qX qm 0,qX qm 0,qX .u32 0],zf,rfl⟩⟩
def qH8 (a:List T) (k:Nat):Nat:=(a.take k).flatten.length
theorem qJ2 (a:List T):qH8 a 0=0:=by simp[qH8]
theorem qI2 (a:List T) (k:Nat) (h:k<kN a):qH8 a (k+1)=qH8 a k+kN (a.getD k []):=by
 unfold qH8;rw[qQp h,qR0,qP0,qPz,qPu h];simp
theorem qJb (a:List T) (k:Nat):qH8 a k<=kN a.flatten:=by
 have:=qPs List.length (qPs List.flatten (qSa k a));rw[qR0,qP0]at this;unfold qH8;omega
theorem qK8 (a:List T):qH8 a (kN a)=kN a.flatten:=by unfold qH8;rw[qS7]
def qIi (b:Nat) (a:List T) (k:Nat):En:=⟨pos a k,40*b,qH8 a k,kN (a.getD k []),xD (a.getD k [])⟩
def ents (a:Nat) (b:List T) (n:Nat):List En:=(yO n).map (qIi a b)
theorem qLc (a:Nat) (b:List T) (n:Nat):kN (ents a b n)=n:=by simp[ents]
theorem qIx (a:Nat) (b:List T) (n k:Nat) (c:k<n):(ents a b n)[k]? =yA (qIi a b k):=by
 unfold ents;rw[qP3,qSe c];rfl
theorem qJ7 (a:Nat) (b:List T) (n:Nat):ents a b (n+1)=ents a b n++[qIi a b n]:=by
 unfold ents;rw[qQw,qQb];rfl
theorem Own'.lt {α:Type} {L:xV α} {B:Nat} {e:yE} {a:Option yF} {c:Nat} {l:List α} (h:yx L w B e a n c l):∀k,(Value.slice a n c).ownBlock=yA k->k<w.heap.size:=fun k b=>(World.ownsRow.lt h k b).2
theorem qIt {o:Obj} {p:yF} {v:yD} (h:w.cell? p=yA v):(w.alloc o).cell? p=yA v:=(((yR w.heap.size w).alloc (qPq _) o).cell (qQk h)).trans h
theorem qOi {P:Program} {ρ:Operand->yD} {o:Oper} {w':yC} {m k:Nat} (h:(execOp ρ o).run P w= .ok (.value (qZ (yA ⟨w,0,yB⟩) m k)) w') (a:w.heap.size=n):(execOp ρ o).run P w= .ok (.value (qZ (yA ⟨n,0,yB⟩) m k)) w':=by
 subst a;exact h
theorem rd4 {p:Option yF} {l:List Bk4} (h:xP LBk w p l) (k:Nat) (x:Bk4) (d:l[k]? =yA x):∃g a,p=yA ⟨g,a,yB⟩/\w.cell? ⟨g,a+k*4,yB⟩=yA (qY x.s)/\w.cell? ⟨g,a+k*4+1,yB⟩=yA (zAx x.u)/\
  w.cell? ⟨g,a+k*4+2,yB⟩=yA (qX qm (x.i:Int))/\w.cell? ⟨g,a+k*4+3,yB⟩=yA (qX qm (x.j:Int)):=by
 obtain⟨g,a,c,b⟩:=h k x d;exact⟨g,a,c,b 0 qW,b 1 qW,b 2 qW,b 3 qW⟩
theorem qOr (a:List T) (n k:Nat) (b:k<n):((yO n).map (qJj a))[k]? =yA (qJj a k):=by
 rw[qP3,qSe b];rfl
theorem qM7 (z n:Nat) (q:List T) (a:ByteArray) (A:Arc z q a n) (hl:kN q.flatten<=1000000) (w:yC):
  yG yK 11 #[qY a] w fun e w'=>∃p c,e=qx (qg #[qZ p n c,qX qm 0])/\yx LEn w' w.heap.size TEn p n c (ents z q n)/\yM w w w':=by
 obtain⟨F,L⟩:=yU (qMc z n q a A w) (fun w=>qMk z n q a A w);have hn:=A.many;have HN:=zH A.len;obtain⟨B,hB⟩:=zB w.heap.size;rw[hB]at F⊢;have HB:=zH hB;clear A hB;go_enter func11,ntmps11;go_wp2_with fail;(with_reducible refine F.out.mono ?_);rintro e w1 ⟨p,c,rfl,ho,hb⟩;have O1:=zH ho;have B1:=yT (yM B w w1/\B<=w1.heap.size) ⟨hb,by have:=hb.size;have:=HB.out;omega⟩;clear ho hb F;go_wp2_with fail;(with_reducible refine(L.out _).mono ?_);rintro e w2 ⟨p2,c2,rfl,X,o⟩;have a5:n<=c\/n=0:=by
  rcases qQz n with h|h
  .exact qy h
  .obtain⟨_,_,_,_,h⟩:=O1.out.at_ h;exact qz h
 obtain⟨O2,P2⟩:=yU (O1.out.below o (qPq _)).rd X;have B2:=yT (yM B w w2/\B<=w2.heap.size) ⟨B1.out.1.trans (o.mono B1.out.2),qP2 B1.out.2 o.size⟩;obtain⟨E,hE⟩:=zB w2.heap.size;have HE:=zH hE;clear X o L O1 B1 hE;go_wp2;go_loopw [2,7,25] (fun ov fv iv wr=>∃(k f c':Nat) (p':Option yF),k<=n/\f<=1000000/\iv=qX qm k/\fv=qX qm f/\ov=qZ p' k c'/\yL (qH8 q k=f)/\yL (yx LEn wr E TEn p' k c' (ents z q k))/\yL (yM E w2 wr)) (fun _ _ iv _=>n-(intOf iv).toNat)
 case atStart=>exact⟨0,0,0,yB,qQl _,za,rfl,rfl,rfl,zH (qJ2 q),zH (Kit.Own'.start _ _ _),zH (yR _ _)⟩
 case round=>
  obtain⟨k,f,c',p',hk,a7,rfl,rfl,rfl,hf,l,b⟩:=hrel;by_cases m:k<n
  .obtain⟨g,off,rfl,e0,e1,e2,e3⟩:=rd4 (O2.out.below b.out HE.out.symm) k _ (qOr q n k m);obtain⟨s,u,i,j,hx⟩:∃s u i j,qJj q k=⟨s,u,i,j⟩:=⟨_,_,_,_,rfl⟩;obtain⟨r,hr⟩:=zB (40*z);have P:k<kN q:=by rw[HN.out];exact m
   have H:s.size=kN (q.getD k []):=by unfold qJj at hx;injection hx with h1;rw[<-h1,Rle.zCh]
   have K:qH8 q (k+1)=f+s.size:=by rw[qI2 q k P,hf.out,H]
   have a8:f+s.size<=1000000:=by rw[<-K];exact qP2 (qJb q (k+1)) hl
   have hp:qIi z q k=⟨i,r,f,s.size,u⟩:=by rw[<-hr];unfold qJj at hx;unfold qIi;injection hx with h1 h2 h3 h4;rw[h3,h2,hf.out,H]
   obtain⟨g2,rfl,_,_,a9,x2,_⟩:=(P2.out.below b.out (Nat.le_of_eq HE.out)).at_ za;have xr:=x2 k m;rw[qP3,List.getElem?_replicate,qPr m,hr]at xr;rw[hx]at e0 e1 e2 e3;simp only at e0 e1 e2 e3;have a6:n<=c:=za
   obtain⟨W,hW⟩:=zB (wr.alloc (qp #[qY s,zAx u,i,j] TBk));have a3:E<=wr.heap.size:=by have:=b.out.size;have:=HE.out;omega
   obtain⟨Z,hZ⟩:=zB wr.heap.size;have G:W.drew.heap.size=Z+1:=by rw[<-hW];show(wr.alloc _).heap.size=_;rw[zA,hZ]
   have S:yM E w2 W.drew:=by rw[<-hW];exact(b.out.alloc a3 _).drew
   have d:W.drew.heap[Z]? =yA (qp #[qY s,zAx u,i,j] TBk):=by rw[<-hW,<-hZ];exact zAh wr _
   have L0:=yT ((loadVar 9 ⟨Z,0,yB⟩).run yK W.drew= .ok (qY s) W.drew) (yw (by simp[yQ,d]) zf zf);have L1:=yT ((loadVar 65 ⟨Z,1,yB⟩).run yK W.drew= .ok (zAx u) W.drew) (yw (by simp[yQ,d]) zf zf);have L2:=yT ((loadVar 3 ⟨Z,2,yB⟩).run yK W.drew= .ok (qX qm (i:Int)) W.drew) (yw (by simp[yQ,d]) zf zf);have LR:=yT ((loadVar 3 ⟨g2,k,yB⟩).run yK W.drew= .ok (qX qm (r:Int)) W.drew) (yw (by show W.cell? _=_;rw[<-hW];exact qIt xr) zf zf);have I:yx LEn W.drew E TEn p' k c' (ents z q k):=by rw[<-hW];exact(l.out.alloc _).below (yR _ _).drew (qPq _)
   obtain⟨p3,c3,w3,V,R,Y,O⟩:=qKb qM za I ⟨i,r,f,s.size,u⟩ za za G;have O3:=yT (yx LEn w3 E TEn p3 (k+1) c3 (ents z q (k+1))) (by rw[qJ7,hp];exact R);obtain⟨B3,a0,a4,HW,HZ,a1⟩:=yZ (S.trans Y) V K hW hZ G;have N:w3.heap[Z]? =yA (qp #[qY s,zAx u,i,j] TBk):=by
    rw[O Z za (fun h=>by have:=Own'.lt l.out Z h;omega)];exact d
   have y0:w3.cell? ⟨Z,0,yB⟩=yA (qY s):=by simp[yQ,N]
   have a2:=zH y0;unfold zAx at e1 HW;clear l b hx hp hW G S R Y V hr I xr x2 K P H hf d hZ O N y0;go_wp2;clear e0 e1 e2 e3;rw[show wr.alloc (qp #[qY s,qX .u32 (xJ u),i,j] TBk)=W from HW.out,HZ.out];refine zS [] (fun _=>True) [0,0,2,0,0,24,32,0,0,256,512,0,2048,5316,8192,16385,65535] 17<|zu 0 30 (qZ p' k c')<|zp [1,2,3,4,5,6,7,8,9,10,11,12,13]<|zk 31 (zP Z 2)<|zt 32 (zI i) (zl 3 31 (L2.out))<|zk 33 (qZ (yA ⟨g2,0,yB⟩) n c2)<|zk 34 (zI k)<|zt 35 (zP g2 k) (Kit.zBo (t:=23) (x:=(.tmp 33)) (y:=(.tmp 34)) (g:=g2) (n:=n) (c:=c2) (k:=k) rfl zf zf za underlying23 (fun _=>sizeOf3 _) _)<|zt 36 (zI r) (zl 3 35 (LR.out))<|zk 37 (zI f)<|zk 38 (zP Z 0)<|zt 39 (qY s) (zl 9 38 (L0.out))<|zk 40 (qX qm (s.size:Int))<|zk 41 (zP Z 1)<|zt 42 (zAx u) (zl 65 41 (L1.out))<|zk 43 (.agg #[i,r,f,qX qm (s.size:Int),zAx u])<|zn<| ?_
   refine Kit.zLe (w':=W.drew.alloc (qp (LEn.cl ⟨i,r,f,s.size,u⟩).toArray TEn)) 14 (yA 44) (qZ (yA ⟨Z+1,0,yB⟩) 1 1) 32767 zf zf rfl rfl zf (qOi zf a1.out) (qy (qy trivial)) ?_;refine zo 15 45 (qZ p3 (k+1) c3) (Kit.zHb (.tmp 30) (.tmp 44) TEs rfl zf zf a0.out) (qy (qy trivial))<|zp [16]<|zk 2 (qZ p3 (k+1) c3)<|zn<|zE<| ?_
   simp only[zP,zI,Act.put,qPx,qPw,qPy];have y0:=a2.out;go_wp2;go_roundw
   case rel=>exact⟨k+1,f+s.size,c3,p3,za,za,by go_num,by go_num,rfl,a4,O3,B3⟩
   case measure=>exact z8
  .obtain rfl:k=n:=za
   obtain⟨O3,B3⟩:=yU l.out b.out;have M:B<=E:=by have:=B2.out.2;have:=HE.out;omega
   clear l b;go_wp2;go_ret2;refine⟨p',c',rfl,O3.out.base M,B2.out.1.trans (B3.out.mono M)⟩
end Ix2
namespace Ix2
open Bt Ch St Tn Bk Sm
open Front (ival)
theorem rdE {w:yC} {p:Option yF} {l:List En} (h:xP LEn w p l) (k:Nat) (x:En) (d:l[k]? =yA x):∃g a,p=yA ⟨g,a,yB⟩/\w.cell? ⟨g,a+k*5,yB⟩=yA (qX qm (x.i:Int))/\w.cell? ⟨g,a+k*5+1,yB⟩=yA (qX qm (x.r:Int))/\
  w.cell? ⟨g,a+k*5+2,yB⟩=yA (qX qm (x.f:Int))/\w.cell? ⟨g,a+k*5+3,yB⟩=yA (qX qm (x.l:Int))/\w.cell? ⟨g,a+k*5+4,yB⟩=yA (zAx x.u):=by
 obtain⟨g,a,c,b⟩:=h k x d;exact⟨g,a,c,b 0 qW,b 1 qW,b 2 qW,b 3 qW,b 4 qW⟩
structure Ps (lev:Nat) (ps:List T) (n:Nat):Prop where
 len:kN ps=n
 lo:1<=lev
 hi:lev<=9
 many:n<=1000
 each:∀k,k<n->0<kN (ps.getD k [])
 all:kN ps.flatten<=10000
 up:∀k,k<n->pos ps k<pos ps (k+1)
 far:∀k,k<=n->pos ps k<=100000000
theorem Ps.one {b n:Nat} {a:List T} (h:Ps b a n) {k:Nat} (c:k<n):qH8 a (k+1)=qH8 a k+kN (a.getD k [])/\qH8 a (k+1)<=10000:=
 ⟨qI2 a k (by rw[h.len];exact c),qP2 (qJb a (k+1)) h.all⟩
theorem zGf (z n:Nat) (q:List T) (P:Ps z q n) (p:Option yF) (c:Nat) (w:yC) (h:xP LEn w p (ents z q n)) (hc:n<=c):
  yG yK 55 #[qZ p n c] w fun e w'=>e=qx (qh yH)/\yM w w w':=by
 obtain⟨N,F⟩:=yU P h;have hn:=P.many;have h1:=P.lo;have h9:=P.hi;clear P h;go_enter func55,ntmps55;go_wp2;refine wp_scope_straight ?_;go_wp2;refine wp_label ?_;go_wp2;go_loopw [3,4,5,10] (fun fv av rv iv wr=>∃(k f a:Nat),rv=qh yH/\k<=n/\f<=10000/\a<=100000000/\iv=qX qm k/\fv=qX qm f/\av=qX qm a/\yL (qH8 q k=f)/\yL (a<pos q k)/\yL (yM w w wr)) (fun _ _ _ iv _=>n-(intOf iv).toNat)
 case atStart=>exact⟨0,0,31,rfl,qQl _,za,za,rfl,rfl,rfl,zH (qJ2 q),zH (by rw[zZu];omega),zH (yR _ _)⟩
 case round=>
  obtain⟨k,f,a,rfl,hk,a1,a0,rfl,rfl,rfl,hf,ha,b⟩:=hrel;by_cases d:k<n
  .obtain⟨g,off,rfl,S,V,X,Y,O⟩:=rdE (F.out.below b.out rfl) k _ (qIx z q n k d);obtain⟨i,r,f',l,u,L⟩:∃i r f l u,qIi z q k=⟨i,r,f,l,u⟩:=⟨_,_,_,_,_,rfl⟩;obtain⟨M,q2⟩:=N.out.one d;have B:=N.out.each k d;have m:=N.out.up k d;have s:=N.out.far k za;have HQ:=zH M;unfold qIi at L;injection L with x1 x2 x3 x4 x5
   have L:qIi z q k=⟨i,r,f',l,u⟩:=by unfold qIi;rw[x1,x2,x3,x4,x5]
   rw[L]at S V X Y O;simp only at S V X Y O;rw[x4]at M B;rw[x1]at s m;rw[x3]at M;have I:f'=f:=by rw[<-x3];exact hf.out
   subst I;have a3:f'+l<=10000:=za
   have H:40<=r/\r<=360/\r%40=0:=za
   obtain⟨a4,a5,a6⟩:=H;have t:((r:Int)%40 !=0)=yI:=zq
   have a7:(Int.tmod (r:Int) 40 !=0)=yI:=by rw[qS5 za];exact t
   have a2:a<i:=by have:=ha.out;omega
   have HX:=zH (yS x1 (yS M m));clear x1 x2 x3 x4 x5 L M q2 m hf ha;have BW:=zH b.out;unfold zAx at O;clear b;obtain⟨W,R⟩:=zB (wr.alloc (qp #[i,r,f',l,qX .u32 (xJ u)] TEn));obtain⟨Z,hZ⟩:=zB wr.heap.size;have j:W.drew.heap[Z]? =yA (qp #[i,r,f',l,qX .u32 (xJ u)] TEn):=by rw[<-R,<-hZ];exact zAh wr _
   have L0:=yT ((loadVar 3 ⟨Z,0,yB⟩).run yK W.drew= .ok (qX qm (i:Int)) W.drew) (yw (by simp[yQ,j]) zf zf);have L2:=yT ((loadVar 3 ⟨Z,2,yB⟩).run yK W.drew= .ok (qX qm (f':Int)) W.drew) (yw (by simp[yQ,j]) zf zf);have L3:=yT ((loadVar 3 ⟨Z,3,yB⟩).run yK W.drew= .ok (qX qm (l:Int)) W.drew) (yw (by simp[yQ,j]) zf zf);have K:=yT (yM w w W.drew) (by rw[<-R];exact(BW.out.alloc BW.out.size _).drew);have o:IntKind.i64.wrap ((f':Int)+(l:Int))=((f'+l:Nat):Int):=by rw[qQa _ ⟨za,za⟩];omega
   obtain⟨G,HW,HZ⟩:=yV o R hZ;clear R hZ j o BW;go_wp2;clear S V X Y O;rw[show wr.alloc (qp #[i,r,f',l,qX .u32 (xJ u)] TEn)=W from HW.out,HZ.out];refine zS [] (fun _=>True) [0,1,0,4,10,0,32,31,255] 9<|zp [0,1,2,3,4,5,6,7,8]<|zk 45 (zP Z 2)<|zt 46 (zI f') (zl 3 45 (L2.out))<|zk 47 (zP Z 3)<|zt 48 (zI l) (zl 3 47 (L3.out))<|zt 49 (qX qm ((f'+l:Nat):Int)) (Kit.qCv (x:= .tmp 46) (y:= .tmp 48) rfl zf zf G.out _)<|zk 50 (zP Z 0)<|zt 51 (zI i) (zl 3 50 (L0.out))<|zk 3 (qX qm ((f'+l:Nat):Int))<|zk 4 (zI i)<|zn<|zE<| ?_
   simp only[zP,zI,Act.put,qPx,qPw,qPy];go_wp2;go_roundw
   case rel=>exact⟨k+1,f'+l,i,rfl,za,za,za,by go_num,rfl,rfl,zH HX.out.2.1,zH HX.out.2.2,K⟩
   case measure=>exact z8
  .obtain rfl:k=n:=za
   have BW:=zH b.out;clear b hf ha;go_wp2;simp only[Exit.noGoto];go_ret;exact⟨rfl,BW.out⟩
theorem qJy (t n:Nat) (q:List T) (P:Ps t q n) (p:Option yF) (c:Nat) (w:yC) (h:xP LEn w p (ents t q n)) (S:n<=c) {X:Nat} (F:kN q.flatten=X):
  yG yK 195 #[qZ p n c] w fun e w'=>e=qx (qX qm (X:Int))/\yM w w w':=by
 obtain⟨y,j⟩:=yU P h;have Z:=P.many;have W:X<=10000:=by rw[<-F];exact P.all
 obtain⟨z,H⟩:=yU (zGf t n q P p c w h S) F;clear P h F;rcases qQz n with N|N
 .subst N;have s:X=0:=by
   have:=y.out.len;have R:q=[]:=qQ0 this;rw[<-H.out,R];rfl
  subst s;clear z;go_enter func195,ntmps195;go_wp2;go_ret;exact⟨rfl,yR _ _⟩
 .obtain⟨m,rfl⟩:∃m,n=m+1:=⟨n-1,za⟩;go_enter func195,ntmps195;go_wp2_with fail;(with_reducible refine z.out.mono ?_);rintro e w1 ⟨rfl,b⟩;obtain⟨g,off,rfl,I,K,L,M,B⟩:=rdE (j.out.below b rfl) m _ (qIx t q (m+1) m za);obtain⟨O,V⟩:=y.out.one (k:=m) za;have a:=qK8 q;rw[y.out.len,H.out]at a;unfold zAx at B;obtain⟨i,r,f,l,u,x⟩:∃i r f l u,qIi t q m=⟨i,r,f,l,u⟩:=⟨_,_,_,_,_,rfl⟩;have d:f+l=X:=by rw[<-a,O];unfold qIi at x;injection x with x1 x2 x3 x4 x5;rw[x3,x4]
  rw[x]at I K L M B;simp only at I K L M B;obtain⟨G,o⟩:=yU b d;have Y:f+l<=10000:=za
  clear b O V a x d z;go_wp2;go_ret;refine⟨by rw[<-o.out];rfl,G.out.alloc G.out.size _⟩
end Ix2
namespace Ix2
open Hf Bt Zr Ch Tn Bk Sm
open Front (ival)
variable {j k:Nat} {n m:Int} {o:Oper} {P:Program} {ρ:Operand->yD} {t u:yE} {x y:Operand} {b:Bool}
theorem qKr (a:List T):∀(d k:Nat),k+d<=kN a->qH8 a k<=qH8 a (k+d)
 |0,_,_=>qPq _
 |d+1,k,h=>by
  have c:=qKr a d k za;have e:=qI2 a (k+d) za;rw[<-qR3];omega
theorem qIq (a:List T) (h:j<=k) (d:k<=kN a):qH8 a j<=qH8 a k:=by
 have c:=qKr a (k-j) j za;rwa[show j+(k-j)=k from za]at c
structure In (ps:List T) (n o j:Nat):Prop where
 lt:j<n
 lo:qH8 ps j<=o
 hi:o<qH8 ps (j+1)
theorem qMo (e n:Nat) (c:List T) (P:Ps e c n) (o:Nat) (h:o<kN c.flatten):∃j,In c n o j:=by
 have a:∀m,m<=n->o<qH8 c m->∃j,In c n o j:=by
  intro m
  induction m with
  |zero=>intro _ d;rw[qJ2]at d;omega
  |succ m ih=>
   intro g d;by_cases f:o<qH8 c m
   .exact ih za f
   .exact⟨m,za,za,d⟩
 refine a n (qPq _) ?_;have:=qK8 c;rw[P.len]at this;rw[this];exact h
theorem In.gt {e n:Nat} {a:List T} (P:Ps e a n) {o:Nat} (h:In a n o j) (f:k<n):(o<qH8 a k)↔j+1<=k:=by
 have g:=P.len;constructor
 .intro d;rcases qP8 j k with c|c
  .exact c
  .have:=qIq a c (by have:=h.lt;omega);have:=h.lo;omega
 .intro d;have:=qIq a d za;have:=h.hi;omega
theorem qOh (c:o.op= .binOp .gtr t x y u) (d:ρ x=qX qm m) (e:ρ y=qX qm n) (a:decide (n<m)=b) (w:yC):(execOp ρ o).run P w= .ok (.value (qh b)) w:=by
 unfold execOp;simp[c,d,e,go_sem,a]
theorem qOg (c:o.op= .binOp .lss t x y u) (d:ρ x=qX qm m) (e:ρ y=qX qm n) (a:decide (m<n)=b) (w:yC):(execOp ρ o).run P w= .ok (.value (qh b)) w:=by
 unfold execOp;simp[c,d,e,go_sem,a]
theorem qMj (c:o.op= .binOp .geq t x y u) (d:ρ x=qX qm m) (e:ρ y=qX qm n) (a:decide (n<=m)=b) (w:yC):(execOp ρ o).run P w= .ok (.value (qh b)) w:=by
 unfold execOp;simp[c,d,e,go_sem,a]
theorem qMt (r n:Nat) (q:List T) (P:Ps r q n) (p:Option yF) (c b s o j k:Nat) (w:yC) (h:xP LEn w p (ents r q n)) (S:n<=c) (H:w.cell? ⟨b,0,yB⟩=yA (qZ p n c)) (B:w.cell? ⟨s,0,yB⟩=yA (qX qm (o:Int))) (I:In q n o j) (K:k<n):
  yG yK 252 #[k,qc (yA ⟨b,0,yB⟩),qc (yA ⟨s,0,yB⟩)] w fun e w'=>e=qx (qh (yJ (j+1<=k)))/\yM w w w':=by
 have V:=P.many;obtain⟨g,off,rfl,M,N,G,O,R⟩:=rdE h k _ (qIx r q n k K);have l:=I.gt P K;obtain⟨f,z⟩:=zB (qH8 q k);have a:w.cell? ⟨g,off+k*5+2,yB⟩=yA (qX qm (f:Int)):=by rw[G];unfold qIi;rw[z]
 rw[z]at l;have HB:=yT ((loadVar 30 ⟨b,0,yB⟩).run yK w.drew= .ok (qZ (yA ⟨g,off,yB⟩) n c) w.drew) (yw (by show w.cell? _=_;exact H) zf zf);have m:=yT ((loadVar 3 ⟨s,0,yB⟩).run yK w.drew= .ok (qX qm (o:Int)) w.drew) (yw (by show w.cell? _=_;exact B) zf zf);have L:=yT ((loadVar 3 ⟨g,off+k*5+2,yB⟩).run yK w.drew= .ok (qX qm (f:Int)) w.drew) (yw (by show w.cell? _=_;exact a) zf zf);have hd:decide ((o:Int)<(f:Int))=yJ (j+1<=k):=by rw[decide_eq_decide];omega
 have F:=zH hd;obtain⟨d,i⟩:=zB (yJ (j+1<=k));rw[i]at F⊢;clear P h H B I M N G O R a l z hd i;go_enter func252,ntmps252;go_wp2;refine zS [] (fun _=>True) [0,0,3,4,8,0,48,127] 8<|zp [0,1,2,3,4,5,6,7]<|zt 5 (qZ (yA ⟨g,off,yB⟩) n c) (zl 30 1 (HB.out))<|zk 6 (zI k)<|zt 7 (qc (yA ⟨g,off+k*5,yB⟩)) (Kit.qCt (t:=30) (x:=(.tmp 5)) (y:=(.tmp 6)) (g:=g) (off:=off) (n:=n) (c:=c) (k:=k) (sz:=5) rfl zf zf za underlying30 (fun _=>sizeOf107 _) _)<|zk 8 (qc (yA ⟨g,off+k*5+2,yB⟩))<|zt 9 (zI f) (zl 3 8 (L.out))<|zt 10 (zI o) (zl 3 2 (m.out))<|zt 11 (qh d) (qOh (x:= .tmp 9) (y:= .tmp 10) rfl zf zf F.out _)<|zk 4 (qh d)<|zn<|zE<| ?_
 simp only[zP,zI,Act.put,qPx,qPw,qPy];go_wp2;go_ret;exact⟨rfl,(yR _ _).drew⟩
theorem qL0 (q n:Nat) (i:List T) (P:Ps q i n) (p:Option yF) (c b r o j:Nat) (w:yC) (h:xP LEn w p (ents q i n)) (K:n<=c) (s:w.cell? ⟨b,0,yB⟩=yA (qZ p n c)) (l:w.cell? ⟨r,0,yB⟩=yA (qX qm (o:Int))) (z:In i n o j):
  yG yK 251 #[n,.func (.func 252) #[] #[qc (yA ⟨b,0,yB⟩),qc (yA ⟨r,0,yB⟩)]] w fun e w'=>e=qx (qX qm ((j+1:Nat):Int))/\yM w w w':=by
 have F:=zH (fun(k:Nat) (L:k<n) (w':yC) (B:yM w w w')=>qMt q n i P p c b r o j k w' (h.below B rfl) K ((B.cell (qQk s)).trans s) ((B.cell (qQk l)).trans l) z L);have V:=P.many;have N:=z.lt;clear P h s l z;go_enter func251,ntmps251;go_wp2;go_loopw [5,6] (fun lv hv wr=>∃lo hi:Nat,lo<=j+1/\j+1<=hi/\hi<=n/\lv=qX qm lo/\hv=qX qm hi/\yL (yM w w wr)) (fun lv hv _=>(intOf hv).toNat-(intOf lv).toNat)
 case atStart=>exact⟨0,n,za,za,za,rfl,rfl,zH (yR _ _)⟩
 case round=>
  obtain⟨lo,hi,G,H,I,rfl,rfl,a⟩:=hrel;by_cases O:lo<hi
  .obtain⟨m,M⟩:=zB ((lo+hi)/2);have g:((lo:Int)+(hi:Int))/2=(m:Int):=za
   have S:lo<=m:=za
   have R:m<hi:=za
   clear M;go_wp2_with fail;clear g;(with_reducible refine(F.out m za wr a.out).mono ?_);rintro e W ⟨rfl,d⟩;have BW:=zH (a.out.trans (d.mono a.out.size));clear a d;by_cases hd:j+1<=m
   .have f:decide (j+1<=m)=yH:=qQ hd;go_wp2;go_roundw
    case rel=>exact⟨lo,m,G,hd,za,rfl,rfl,BW⟩
    case measure=>exact z8
   .have f:decide (j+1<=m)=yI:=qP1 hd;go_wp2;go_roundw
    case rel=>exact⟨m+1,hi,za,H,I,by go_num,rfl,BW⟩
    case measure=>exact z8
  .obtain rfl:lo=j+1:=za
   have BW:=zH a.out;clear a;go_wp2;go_ret;exact⟨rfl,BW.out⟩
theorem qNo (N n:Nat) (z:List T) (P:Ps N z n) (p:Option yF) (c o j:Nat) (w:yC) (h:xP LEn w p (ents N z n)) (V:n<=c) (R:In z n o j):
  yG yK 196 #[qZ p n c,o] w fun e w'=>e=qx (qX qm (j:Int))/\yM w w w':=by
 obtain⟨E,L⟩:=zB w.heap.size;obtain⟨X,S⟩:=zB (kN z.flatten);have a1:o<X:=by
  have h1:=qJb z (j+1);have h2:=R.hi;omega
 have a0:X<=10000:=by rw[<-S];exact P.all
 obtain⟨W,K⟩:=zB ((w.alloc (qp #[qZ p n c] TEs)).alloc (qp #[o] 3));have d:yM w w W:=by rw[<-K];exact((yR _ _).alloc (qPq _) _).alloc (by rw[zA];omega) _
 have hz:W.heap.size=E+2:=by rw[<-K,zA,zA,L]
 have O:W.heap[E]? =yA (qp #[qZ p n c] TEs):=by rw[<-K,<-L];exact(Lib.alloc_old _ _ _ (by rw[zA];omega)).trans (zAh w _)
 have f:W.heap[E+1]? =yA (qp #[o] 3):=by rw[<-K,<-L,<-zA w (qp #[qZ p n c] TEs)];exact zAh _ _
 have hn:=P.many;have HT:=yT (∀W',yM W W W'->yG yK 195 #[qZ p n c] W' fun e w'=>e=qx (qX qm (X:Int))/\yM W' W' w') fun W' q=>qJy N n z P p c W' ((h.below d rfl).below q rfl) V S;have HS:=yT (∀W',yM W W W'->_) (fun W' q=>qL0 N n z P p c E (E+1) o j W' ((h.below d rfl).below q rfl) V (by simp[yQ,(q.block E za).trans O]) (by simp[yQ,(q.block (E+1) za).trans f]) R);have HB:=yT (∀W',yM W W W'->(loadVar TEs ⟨E,0,yB⟩).run yK W'= .ok (qZ p n c) W') (fun W' q=>yw (by simp[yQ,(q.block E za).trans O]) zf zf);have u:=yT (∀W',yM W W W'->(loadVar 3 ⟨E+1,0,yB⟩).run yK W'= .ok (qX qm (o:Int)) W') (fun W' q=>yw (by simp[yQ,(q.block (E+1) za).trans f]) zf zf);obtain⟨s,HW,Z,t⟩:=yX O K L d;have l:yM W W W.drew:=(yR _ _).drew;have a:=zH l;have g:decide ((o:Int)<0)=yI:=by simp
 have i:decide ((X:Int)<=(o:Int))=yI:=zq
 obtain⟨F,H⟩:=yU g i;have G:j<=1000:=by have:=R.lt;omega
 clear h S K d O f L l g i R hz;go_enter func196,ntmps196;go_wp2;rw[Z.out,show(w.alloc (qp #[qZ p n c] TEs)).alloc (qp #[o] 3)=W from HW.out];refine zS [] (fun W9=>yM W W W9) [0,1,2,4,4,20,44,68] 8<|zp [0,1,2]<|zt 5 (zI o) ((fun w M=>zl 3 3 (u.out _ M)) _ (a.out))<|zt 6 (qh yI) (qOg (x:= .tmp 5) (y:= .const (qX qm 0)) rfl zf zf F.out _)<|zk 7 (qh yI)<|zn<|zy 3 8 (zI o) (fun w M=>zl 3 3 (u.out _ M)) a.out<|zp [4]<|zt 9 (qZ p n c) ((fun w M=>zl 30 2 (HB.out _ M)) _ (a.out))<|zn<|zx 5 10 195 #[qZ p n c] (HT.out _ a.out)<| ?_
 rintro e Y ⟨rfl,r⟩;have b:=zH (a.out.trans (r.mono a.out.size));refine⟨_,rfl,qy (qy b.out),?_⟩;refine zp [6,7]<|zt 11 (qh yI) (qMj (x:= .tmp 8) (y:= .tmp 10) rfl zf zf H.out _)<|zk 12 (qh yI)<|zn<|zE<| ?_
 simp only[zP,zI,Act.put,qPx,qPw,qPy];have y0:Y.cell? ⟨E,0,yB⟩=yA (qZ p n c):=by simp[yQ,(b.out.block E (zAd s.out)).trans s.out]
 obtain⟨I,k⟩:=yU (HS.out Y b.out) (t.out.trans (b.out.mono t.out.size));have a2:j<=1000:=G;clear r;go_wp2_with fail;(with_reducible refine I.out.mono ?_);rintro e w6 ⟨rfl,m⟩;have B:=zH (k.out.trans (m.mono k.out.size));clear m y0;go_wp2;go_ret;refine⟨?_,B.out⟩
 first|rfl|(congr 1;congr 1;omega)
end Ix2
namespace Ix2
open Sm
open Front (ival)
variable {X:Nat}
def Cov (d:List T) (n X o m:Nat) (a b:Int):Prop:=((m=0\/X<=o)/\a= -1/\b= -1)\/(0<m/\o<X/\∃j c:Nat,a=(j:Int)/\b=(c:Int)/\In d n o j/\In d n (o+min m (X-o)-1) c)
theorem qOb (e n:Nat) (d:List T) (P:Ps e d n) (l:kN d.flatten=X) (o m:Nat):∃a b,Cov d n X o m a b:=by
 by_cases h:m=0\/X<=o
 .exact⟨-1,-1,qz ⟨h,rfl,rfl⟩⟩
 .have g:0<m:=za
  have i:o<X:=za
  obtain⟨j,k⟩:=qMo e n d P o za;obtain⟨f,c⟩:=qMo e n d P (o+min m (X-o)-1) za;exact⟨j,f,qy ⟨g,i,j,f,rfl,rfl,k,c⟩⟩
theorem qKw (z n:Nat) (t:List T) (P:Ps z t n) (p:Option yF) (c o m:Nat) (a b:Int) (w:yC) (h:xP LEn w p (ents z t n)) (L:n<=c) (G:kN t.flatten=X) (hv:Cov t n X o m a b) (ho:o<=100000000) (hm:m<=100000000):
  yG yK 144 #[qZ p n c,o,m] w fun e w'=>e=qx (qg #[qX qm a,qX qm b])/\yM w w w':=by
 have u:=zH (qJy z n t P p c w h L G);have V:X<=10000:=by rw[<-G];exact P.all
 have x:=yT (∀(o j:Nat) (y:In t n o j) (w':yC),yM w w w'->_) fun o j y w' H=>qNo z n t P p c o j w' (h.below H rfl) L y;clear P h G;rcases hv with⟨F,rfl,rfl⟩|⟨F,h2,j,N,rfl,rfl,y,g⟩
 .by_cases K:m=0
  .subst K;clear F x;go_enter func144,ntmps144;go_wp2_with fail;(with_reducible refine u.out.mono ?_);rintro e I ⟨rfl,f⟩;have q:=zH f;clear f u;go_wp2;go_ret2;exact⟨rfl,q.out⟩
  .have h3:X<=o:=za
   have h4:1<=m:=za
   clear F x K;go_enter func144,ntmps144;go_wp2_with fail;(with_reducible refine u.out.mono ?_);rintro e I ⟨rfl,f⟩;have q:=zH f;clear f u;go_wp2;go_ret2;exact⟨rfl,q.out⟩
 .obtain⟨d,hd⟩:=zB (min m (X-o));have W:1<=d:=za
  have Y:d<=m:=za
  have a0:max (o:Int) 0=(o:Int):=za
  have Z:min (m:Int) ((X:Int)-(o:Int))=(d:Int):=za
  rw[hd]at g;obtain⟨S,s⟩:=yU y g;have M:((o+d-1:Nat):Int)=(o:Int)+(d:Int)-1:=za
  clear hd y g;go_enter func144,ntmps144;go_wp2_with fail;(with_reducible refine u.out.mono ?_);rintro e I ⟨rfl,f⟩;have q:=zH f;clear f u;have l:=zH (x.out o j S.out I q.out);have i:=yT (∀w':yC,yM w w w'->yG yK 196 #[qZ p n c,qX qm ((o:Int)+(d:Int)-1)] w' fun e O=>e=qx (qX qm (N:Int))/\yM w' w' O) (fun w' H=>by have:=x.out (o+d-1) N s.out w' H;rw[M]at this;exact this);clear x M;go_wp2_with fail;(with_reducible refine l.out.mono ?_);rintro e w2 ⟨rfl,k⟩;have B:=zH (q.out.trans (k.mono q.out.size));clear k l;go_wp2_with fail;(with_reducible refine(i.out _ B.out).mono ?_);rintro e w3 ⟨rfl,r⟩;have R:=zH (B.out.trans (r.mono B.out.size));clear r i;go_wp2;go_ret2;exact⟨rfl,R.out⟩
end Ix2
namespace Sd
open Bt Zr Wg St Rg
open Front (ival)
variable {w:yC} {D m c:Nat} {p:Option yF} {l:List UInt8} {K:Int}
def byt (n i:Nat):UInt8:=UInt8.ofNat (n/256^i%256)
def be:Nat->Nat->List UInt8
 |0,_=>[]
 |k+1,n=>byt n k::be k n
theorem qIn:∀(k n:Nat),kN (be k n)=k
 |0,_=>rfl
 |k+1,n=>by rw[be,qP4,qIn k n]
abbrev TU8:yE:=5
abbrev TBy:yE:=109
theorem qPb:Kit.One yK TBy TU8 1:=⟨underlying109,qX qo 0,zf,rfl⟩
theorem qPa:∀(k r n:Nat),r<k->(be k n).take (k-r)=(be k n).take (k-(r+1))++[byt n r]
 |0,_,_,h=>za
 |k+1,r,n,h=>by
  by_cases a:r=k
  .subst a;rw[be,show r+1-r=1 from za,Nat.sub_self];simp
  .have b:=qPa k r n za;rw[be,show k+1-r=(k-r)+1 from za,show k+1-(r+1)=(k-(r+1))+1 from za,qR5,qR5,b];rfl
abbrev C8:Nat->yE->Prop:=fun _ t=>t=TU8
def Bs (w:yC) (D:Nat) (p:Option yF) (m c:Nat) (l:List UInt8):Prop:=yu w D TU8 p m c (l.map xC)\/(c=m/\kN l=m/\∃g,p=yA ⟨g,0,yB⟩/\yt w p (l.map xC))
theorem Bs.below {w':yC} (h:Bs w D p m c l) (a:yM w w w'):Bs w' D p m c l:=by
 rcases h with h|⟨b,d,g,e,f⟩
 .exact qz (h.below a (qPq _))
 .exact qy ⟨b,d,g,e,f.below a⟩
theorem qPd (h:Bs w D p m c l) (x:UInt8) {X:Int} (hX:(x.toNat:Int)=X) (hm:m<=1000000) (W:D<=w.heap.size):
  ∃V c' w',(Builtin.append_ #[TBy,TBy] TBy #[qZ p m c,qZ (yA ⟨w,0,yB⟩) 1 1]).run yK (w.alloc (qp #[qX qo X] TU8))= .ok (qZ V (m+1) c') w'/\
   yu w' D TU8 V (m+1) c' ((l++[x]).map xC)/\yM D w w'/\Sc C8 w w':=by
 subst hX;rcases h with h|⟨rfl,hl,g,rfl,hs⟩
 .obtain⟨p3,c3,w3,M,r,d⟩:=Kit.Own.app (ty:=TBy) (w:=w.alloc (qp #[qX qo (x.toNat:Int)] TU8)) qPb (h.alloc _) (yA ⟨w,0,yB⟩) 1 1 [xC x] (xM w _ TU8) rfl (fun h=>by cases h) (by intro u S;rw[qRe.1 S];rfl) (by unfold maxLen;omega) za zq;have y:=((yR D w).alloc W (qp #[qX qo (x.toNat:Int)] TU8)).trans ((yR _ _).grown d zq (fun q Z=>h.block q Z));refine⟨p3,c3,w3,M,by rw[qQb];exact r,y,y.size,fun k cs t f R ht=> ?_⟩;have a:=zAd R;refine(d.block k zq (fun e=>ht ?_)).trans ((Lib.alloc_old _ _ _ a).trans R);obtain⟨_,O⟩:=h;rcases O with⟨O,_⟩|⟨g,F,n,hv,_,hg,_⟩
  .rw[O]at e;cases e
  .rw[hv]at e;simp[Value.ownBlock]at e;subst e;have H:yA (Obj.cells cs t f)=yA (Obj.cells n TU8 (0,0)):=R.symm.trans hg;exact(qQ6 (qPv H)).2.1
 .obtain⟨z,hz,N⟩:=qPb.row;obtain⟨i,hi,o,G,I⟩:=qRv hz;have B:yM w w (w.alloc (qp #[qX qo (x.toNat:Int)] TU8)):=(yR _ _).alloc (qPq _) _;have L:=hs.below B;have s:=xM w (qX qo (x.toNat:Int)) TU8;obtain⟨v',w',h1,O,h3⟩:=run_append_arg_grows (P:=yK) (w.alloc (qp #[qX qo (x.toNat:Int)] TU8)) TBy TBy TU8 i z 1 1 qPb.ut hi o G I N za ⟨g,0,yB⟩ c c (l.map xC) (by simp[hl]) (fun j u S=>by
    obtain⟨b,K,y,Y⟩:=L j u S;rw[qPv y,Kit.addr_add];exact Y) ⟨w,0,yB⟩ 1 1 [xC x] rfl (fun j u S=>by
    obtain⟨b,K,y,Y⟩:=s j u S;rw[qPv y,Kit.addr_add];exact Y) za (by unfold maxLen;omega) za
  obtain⟨V,c',rfl⟩:∃a' c',v'=qZ a' (c+1) c':=by
   rcases O.2 with⟨rfl,hy⟩|⟨g,F,n,rfl,_⟩
   .omega
   .exact⟨_,_,rfl⟩
  have y:=((yR D w).alloc W (qp #[qX qo (x.toNat:Int)] TU8)).trans ((yR _ _).grown h3 zq (fun q Z=>by simp at Z));have ho:yu w' w.heap.size TU8 V (c+1) c' ((l++[x]).map xC):=by
   rw[qQb];exact Kit.Own.base O (by rw[zA];omega)
  refine⟨V,c',w',h1,ho.base W,y,y.size,fun k cs t f R _=> ?_⟩;have a:=zAd R;exact(h3.block k zq (fun e=>by simp at e)).trans ((Lib.alloc_old _ _ _ a).trans R)
theorem qP (n k:Nat) (V:n<4611686018427387904) (R:k<=8) (O:(k:Int)=K) (p:Option yF) (m c B:Nat) (l:List UInt8) (w:yC) (h:Bs w B p m c l) (M:0<k) (I:B<=w.heap.size) (S:m<=100000):
  yG yK 56 #[qZ p m c,n,qX qm K] w fun e w'=>∃y c',e=qx (qZ y (m+k) c')/\yu w' B TU8 y (m+k) c' ((l++be k n).map xC)/\yM B w w'/\Sc C8 w w':=by
 subst O;obtain⟨N,HB⟩:=yU h I;have q0:(n:Int)%256=((byt n 0).toNat:Int):=by unfold byt;simp;try omega
 have W:(n:Int)/256%256=((byt n 1).toNat:Int):=by unfold byt;simp;try omega
 have X:(n:Int)/65536%256=((byt n 2).toNat:Int):=by unfold byt;simp;try omega
 have Y:(n:Int)/16777216%256=((byt n 3).toNat:Int):=by unfold byt;simp;try omega
 have Z:(n:Int)/4294967296%256=((byt n 4).toNat:Int):=by unfold byt;simp;try omega
 have q5:(n:Int)/1099511627776%256=((byt n 5).toNat:Int):=by unfold byt;simp;try omega
 have q6:(n:Int)/281474976710656%256=((byt n 6).toNat:Int):=by unfold byt;simp;try omega
 have q7:(n:Int)/72057594037927936=((byt n 7).toNat:Int):=by unfold byt;simp;try omega
 clear h I;go_enter func56,ntmps56;go_wp2;go_loopw [0,7] (fun bv iv wr=>∃(r c':Nat) (y:Option yF),r<=k/\iv=qX qm ((r:Int)-1)/\bv=qZ y (m+(k-r)) c'/\yL (Bs wr B y (m+(k-r)) c' (l++(be k n).take (k-r))/\(r<k->yu wr B TU8 y (m+(k-r)) c' ((l++(be k n).take (k-r)).map xC)))/\yL (yM B w wr/\Sc C8 w wr)) (fun _ iv _=>(intOf iv+1).toNat)
 case atStart=>exact⟨k,c,p,za,rfl,by rw[Nat.sub_self];rfl,zH ⟨by rw[Nat.sub_self,qS6,qQv];exact N.out,fun h=>za⟩,zH ⟨yR _ _,Sc.refl _ _⟩⟩
 case round=>
  obtain⟨r,c',y,P,rfl,rfl,f,b⟩:=hrel;by_cases t:0<r
  .obtain⟨q,rfl⟩:∃q,r=q+1:=⟨r-1,za⟩;have j:B<=wr.heap.size:=qP2 HB.out b.out.1.size;obtain⟨H,c3,L,o,a,s,i⟩:=qPd f.out.1 (byt n q) rfl za j;rw[qQr,<-qPa k q n za]at a;obtain⟨d,hd⟩:=zB (k-(q+1));have g:k-q=d+1:=za
   rw[hd]at o a⊢;have G:=yT (Bs L B H (m+(k-q)) c3 (l++(be k n).take (k-q))/\(q<k->yu L B TU8 H (m+(k-q)) c3 ((l++(be k n).take (k-q)).map xC))) (by rw[g]at a⊢;exact⟨qz a,fun _=>a⟩);obtain⟨z,F⟩:=yU (yS (b.out.1.trans s) (b.out.2.trans i)) g;have x:q<=k:=za
   clear f b a s j hd g t i;have u:q=0\/q=1\/q=2\/q=3\/q=4\/q=5\/q=6\/q=7:=za
   clear P;rcases u with rfl|rfl|rfl|rfl|rfl|rfl|rfl|rfl
   all_goals
    go_wp2_with (at_builtin;refine xG rfl (.tmp 14) (.tmp 21) TBy rfl rfl rfl o ?_);go_roundw
    case rel=>exact⟨_,c3,H,x,by go_num,by rw[F.out];rfl,G,z⟩
    case measure=>exact z8
  .obtain rfl:r=0:=za
   obtain⟨G,z⟩:=yU (f.out.2 M) b.out;clear f b;go_wp2;go_ret;refine⟨y,c',rfl,?_,z.out⟩;have h:=G.out;rw[Nat.sub_zero,qQc (by rw[qIn];exact qPq _)]at h;exact h
theorem qPc (n k:Nat) (V:n<4294967296) (R:k<=4) (O:(k:Int)=K) (p:Option yF) (m c B:Nat) (l:List UInt8) (w:yC) (h:Bs w B p m c l) (M:0<k) (I:B<=w.heap.size) (S:m<=100000):
  yG yK 57 #[qZ p m c,qX .u32 (n:Int),qX qm K] w fun e w'=>∃y c',e=qx (qZ y (m+k) c')/\yu w' B TU8 y (m+k) c' ((l++be k n).map xC)/\yM B w w'/\Sc C8 w w':=by
 subst O;obtain⟨N,HB⟩:=yU h I;have q0:(n:Int)%256=((byt n 0).toNat:Int):=by unfold byt;simp;try omega
 have W:(n:Int)/256%256=((byt n 1).toNat:Int):=by unfold byt;simp;try omega
 have X:(n:Int)/65536%256=((byt n 2).toNat:Int):=by unfold byt;simp;try omega
 have Y:(n:Int)/16777216=((byt n 3).toNat:Int):=by unfold byt;simp;try omega
 clear h I;go_enter func57,ntmps57;go_wp2;go_loopw [0,7] (fun bv iv wr=>∃(r c':Nat) (y:Option yF),r<=k/\iv=qX qm ((r:Int)-1)/\bv=qZ y (m+(k-r)) c'/\yL (Bs wr B y (m+(k-r)) c' (l++(be k n).take (k-r))/\(r<k->yu wr B TU8 y (m+(k-r)) c' ((l++(be k n).take (k-r)).map xC)))/\yL (yM B w wr/\Sc C8 w wr)) (fun _ iv _=>(intOf iv+1).toNat)
 case atStart=>exact⟨k,c,p,za,rfl,by rw[Nat.sub_self];rfl,zH ⟨by rw[Nat.sub_self,qS6,qQv];exact N.out,fun h=>za⟩,zH ⟨yR _ _,Sc.refl _ _⟩⟩
 case round=>
  obtain⟨r,c',y,P,rfl,rfl,f,b⟩:=hrel;by_cases t:0<r
  .obtain⟨q,rfl⟩:∃q,r=q+1:=⟨r-1,za⟩;have j:B<=wr.heap.size:=qP2 HB.out b.out.1.size;obtain⟨H,c3,L,o,a,s,i⟩:=qPd f.out.1 (byt n q) rfl za j;rw[qQr,<-qPa k q n za]at a;obtain⟨d,hd⟩:=zB (k-(q+1));have g:k-q=d+1:=za
   rw[hd]at o a⊢;have G:=yT (Bs L B H (m+(k-q)) c3 (l++(be k n).take (k-q))/\(q<k->yu L B TU8 H (m+(k-q)) c3 ((l++(be k n).take (k-q)).map xC))) (by rw[g]at a⊢;exact⟨qz a,fun _=>a⟩);obtain⟨z,F⟩:=yU (yS (b.out.1.trans s) (b.out.2.trans i)) g;have x:q<=k:=za
   clear f b a s j hd g t i;have u:q=0\/q=1\/q=2\/q=3:=za
   clear P;rcases u with rfl|rfl|rfl|rfl
   all_goals
    go_wp2_with (at_builtin;refine xG rfl (.tmp 14) (.tmp 21) TBy rfl rfl rfl o ?_);go_roundw
    case rel=>exact⟨_,c3,H,x,by go_num,by rw[F.out];rfl,G,z⟩
    case measure=>exact z8
  .obtain rfl:r=0:=za
   obtain⟨G,z⟩:=yU (f.out.2 M) b.out;clear f b;go_wp2;go_ret;refine⟨y,c',rfl,?_,z.out⟩;have h:=G.out;rw[Nat.sub_zero,qQc (by rw[qIn];exact qPq _)]at h;exact h
end Sd
namespace Sd
open Bt Zr Ch St Bk Sm Ix2
open Front (ival)
def enB (e:En):List UInt8:=be 8 e.i++(be 2 e.r++(be 8 e.f++(be 4 e.l++be 4 e.u.toNat)))
theorem qOa (e:En):kN (enB e)=26:=by simp[enB,qIn]
def qKh (a:ByteArray) (n:Nat):List UInt8:=[80,77,105,49]++be 8 a.size++be 4 (zBa a.data.toList)++be 4 n
theorem qMp (a:ByteArray) (n:Nat):kN (qKh a n)=20:=by simp[qKh,qIn]
def qK3 (a:ByteArray) (n:Nat) (l:List En):List UInt8:=qKh a n++l.flatMap enB
theorem qPi (w:yC) (l:List UInt8) {k:Nat} (a:kN l=k) (B:Nat) (f:Nat×Nat):Bs (w.alloc (qp (l.map xC).toArray TU8 f)) B (yA ⟨w,0,yB⟩) k k l:=by
 refine qy ⟨rfl,a,_,rfl,fun j u b=>⟨_,_,rfl,?_⟩⟩;have h:(w.alloc (qp (l.map xC).toArray TU8 f)).heap[w.heap.size]? =yA (qp (l.map xC).toArray TU8 f):=zAh w _;simp only[yQ,h,qQd];simp[b]
theorem qJv (a:Nat) (b:List T):∀n,kN ((ents a b n).flatMap enB)=26*n
 |0=>rfl
 |n+1=>by rw[qJ7,List.flatMap_append,qP0,qJv a b n];simp[qOa];omega
theorem cells5 {w:yC} {B:Nat} {a b c d e:yD} {t:yE} (h:w.heap[B]? =yA (qp #[a,b,c,d,e] t)):w.cell? ⟨B,0,yB⟩=yA a/\w.cell? ⟨B,1,yB⟩=yA b/\w.cell? ⟨B,2,yB⟩=yA c/\w.cell? ⟨B,3,yB⟩=yA d/\w.cell? ⟨B,4,yB⟩=yA e:=
 ⟨by simp[yQ,h],by simp[yQ,h],by simp[yQ,h],by simp[yQ,h],by simp[yQ,h]⟩
theorem qPl (a5 n:Nat) (ps:List T) (P:Ps a5 ps n) (a:ByteArray) (ha:a.size<=100000000) (p:Option yF) (c:Nat) (w:yC) (h:xP LEn w p (ents a5 ps n)) (hc:n<=c):
  yG yK 12 #[qY a,qZ p n c] w fun e w'=>e=qx (qg #[qY ⟨(qK3 a n (ents a5 ps n)).toArray⟩,qX qm 0])/\yM w w w':=by
 obtain⟨HR,a4,HP⟩:=yV (zGf a5 n ps P p c w h hc) h P;have hn:=P.many;have h1:=P.lo;have h9:=P.hi;have a1:=zH (fun W=>(show yG yK 25 #[qY a] W fun e w'=>e=qx (qX .u32 (zBa a.data.toList:Int))/\yM W W w' from by
  have h:=Crc.zG7 a (by unfold maxLen;omega) W;rw[show(zBa a.data.toList:Int)=xJ (xD a.data.toList)from by unfold xJ zBa;rfl];exact h))
 obtain⟨B,hB⟩:=zB w.heap.size;have HB:=zH hB;have a3:zBa a.data.toList<4294967296:=by unfold zBa;exact(xD a.data.toList).isLt
 rw[hB]at HR⊢;clear P h hB;go_enter func12,ntmps12;go_wp2_with fail;(with_reducible refine HR.out.mono ?_);rintro e w1 ⟨rfl,H⟩;have B1:=yT (yM B w w1/\B<=w1.heap.size) ⟨H,by have:=H.size;have:=HB.out;omega⟩;obtain⟨w2,d⟩:=zB (w1.alloc (qp #[qX qo 80,qX qo 77,qX qo 105,qX qo 49] TU8 (4,5)));have M:Bs w2 B (yA ⟨w1,0,yB⟩) 4 4 [80,77,105,49]:=by rw[<-d];exact qPi w1 [80,77,105,49] rfl B (4,5)
 have B2:=yT (yM B w w2/\B<=w2.heap.size) ⟨by rw[<-d];exact B1.out.1.alloc B1.out.2 _,by rw[<-d,zA];have:=B1.out.2;omega⟩;have j:=zH (qP a.size 8 za za (K:=8) rfl (yA ⟨w1,0,yB⟩) 4 4 B [80,77,105,49] w2 M za B2.out.2 za);have F:=Lib.run_convert_bytes_const (P:=yK) w1 TBy TU8 #[qX qo 80,qX qo 77,qX qo 105,qX qo 49] 4 4 underlying109 underlying5;rw[show w1.alloc (qp #[qX qo 80,qX qo 77,qX qo 105,qX qo 49] TU8 ((#[qX qo 80,qX qo 77,qX qo 105,qX qo 49]:Array yD).size,(#[qX qo 80,qX qo 77,qX qo 105,qX qo 49]:Array yD).size+1))=w2 from d]at F;clear H HR B1 M d;go_wp2_with fail;clear F;(with_reducible refine j.out.mono ?_);rintro e w3 ⟨p3,c3,rfl,X,I,_⟩;have B3:=yT (yM B w w3/\B<=w3.heap.size) ⟨B2.out.1.trans I,qP2 B2.out.2 I.size⟩;have O3:=zH X;clear j B2 X I;go_wp2_with fail;(with_reducible refine(a1.out _).mono ?_);rintro e w4 ⟨rfl,o⟩;have B4:=yT (yM B w w4/\B<=w4.heap.size) ⟨B3.out.1.trans (o.mono B3.out.2),qP2 B3.out.2 o.size⟩;have m:=zH (qPc (zBa a.data.toList) 4 a3 za (K:=4) rfl p3 (4+8) c3 B _ w4 (qz (O3.out.below o (qPq _))) za B4.out.2 za);clear a1 O3 B3 o;go_wp2_with fail;(with_reducible refine m.out.mono ?_);rintro e w5 ⟨p5,c5,rfl,R,x,_⟩;have B5:=yT (yM B w w5/\B<=w5.heap.size) ⟨B4.out.1.trans x,qP2 B4.out.2 x.size⟩;have S:=zH (qP n 4 za za (K:=4) rfl p5 (4+8+4) c5 B _ w5 (qz R) za B5.out.2 za);clear m B4 R x;go_wp2_with fail;(with_reducible refine S.out.mono ?_);rintro e w6 ⟨p6,c6,rfl,L,t,_⟩;have B6:=yT (yM B w w6/\B<=w6.heap.size) ⟨B5.out.1.trans t,qP2 B5.out.2 t.size⟩;have O6:=yT (yu w6 B TU8 p6 20 c6 ((qKh a n).map xC)) L;clear S B5 L t;rw[show 4+8+4+4=20 from rfl];go_wp2;go_loopw [6,27] (fun bv iv wr=>∃(k c':Nat) (p':Option yF),k<=n/\iv=qX qm k/\bv=qZ p' (20+26*k) c'/\yL (yu wr B TU8 p' (20+26*k) c' ((qKh a n++(ents a5 ps k).flatMap enB).map xC))/\yL (yM B w wr/\B<=wr.heap.size)) (fun _ iv _=>n-(intOf iv).toNat)
 case atStart=>exact⟨0,c6,p6,qQl _,rfl,rfl,zH (by have:(ents a5 ps 0).flatMap enB=[]:=rfl;rw[this,qQv];exact O6.out),B6⟩
 case round=>
  obtain⟨k,c0,p0,hk,rfl,rfl,s,b⟩:=hrel;by_cases V:k<n
  .obtain⟨g,off,rfl,e0,e1,e2,e3,e4⟩:=rdE (a4.out.below b.out.1 HB.out.symm) k _ (qIx a5 ps n k V);obtain⟨i,r,f,l,ub,hx⟩:∃i r f l u,qIi a5 ps k=⟨i,r,f,l,u⟩:=⟨_,_,_,_,_,rfl⟩;obtain⟨q1,q2⟩:=HP.out.one V;have a2:=HP.out.far k za;have N:=hx;unfold qIi at N;injection N with x1 x2 x3 x4 x5
   rw[x1]at a2;rw[q1,x3,x4]at q2;obtain⟨u,hu⟩:=zB ub.toNat;have a7:u<4294967296:=by rw[<-hu];exact ub.isLt
   rw[hx]at e0 e1 e2 e3 e4;simp only at e0 e1 e2 e3 e4;rw[show zAx ub=qX .u32 (u:Int)from by unfold zAx xJ;rw[hu]]at e4;have a6:r<=360:=za
   obtain⟨W,hW⟩:=zB (wr.alloc (qp #[i,r,f,l,qX .u32 (u:Int)] TEn));obtain⟨Z,hZ⟩:=zB wr.heap.size;have O0:=yT (yu W B TU8 p0 (20+26*k) c0 ((qKh a n++(ents a5 ps k).flatMap enB).map xC)) (by rw[<-hW];exact s.out.alloc _);have B0:=yT (yM B w W/\B<=W.heap.size) ⟨by rw[<-hW];exact b.out.1.alloc b.out.2 _,by rw[<-hW,zA];have:=b.out.2;omega⟩;have Z0:=yT (W.heap[Z]? =yA (qp #[i,r,f,l,qX .u32 (u:Int)] TEn)) (by rw[<-hW,<-hZ];exact zAh wr _);have HX:=yT (qKh a n++(ents a5 ps (k+1)).flatMap enB=((((qKh a n++(ents a5 ps k).flatMap enB++be 8 i)++be 2 r)++be 8 f)++be 4 l)++be 4 u) (by rw[qJ7,List.flatMap_append,hx];simp[enB,hu]);obtain⟨HW,HZ⟩:=yU hW hZ;clear s b hx x1 x2 x3 x4 x5 q1 hu hW hZ;go_wp2_with fail;clear e0 e1 e2 e3 e4;rw[show wr.alloc (qp #[i,r,f,l,qX .u32 (u:Int)] TEn)=W from HW.out,HZ.out];have O:=zH (qP i 8 za za (K:=8) rfl p0 (20+26*k) c0 B _ W (qz O0.out) za (B0.out.2) za);obtain⟨y0,y1,y2,y3,y4⟩:=cells5 Z0.out;go_wp2_with fail;clear y0 y1 y2 y3 y4;(with_reducible refine O.out.mono ?_);rintro e v1 ⟨p1,c1,rfl,y,q,z⟩;have O1:=zH y;have B1:=yT (yM B w v1/\B<=v1.heap.size) ⟨B0.out.1.trans q,qP2 B0.out.2 q.size⟩;have Z1:=zH (z.2 Z _ _ _ Z0.out (show ¬(TEn=TU8)by decide));clear O O0 B0 Z0 y q z;have Y:=zH (qP r 2 za za (K:=2) rfl p1 (20+26*k+8) c1 B _ v1 (qz O1.out) za (B1.out.2) za);obtain⟨y0,y1,y2,y3,y4⟩:=cells5 Z1.out;go_wp2_with fail;clear y0 y1 y2 y3 y4;(with_reducible refine Y.out.mono ?_);rintro e v2 ⟨p2,c2,rfl,y,q,z⟩;have O2:=zH y;have B2:=yT (yM B w v2/\B<=v2.heap.size) ⟨B1.out.1.trans q,qP2 B1.out.2 q.size⟩;have Z2:=zH (z.2 Z _ _ _ Z1.out (show ¬(TEn=TU8)by decide));clear Y O1 B1 Z1 y q z;have j:=zH (qP f 8 za za (K:=8) rfl p2 (20+26*k+8+2) c2 B _ v2 (qz O2.out) za (B2.out.2) za);obtain⟨y0,y1,y2,y3,y4⟩:=cells5 Z2.out;go_wp2_with fail;clear y0 y1 y2 y3 y4;(with_reducible refine j.out.mono ?_);rintro e v3 ⟨p3,c3,rfl,y,q,z⟩;have O3:=zH y;have B3:=yT (yM B w v3/\B<=v3.heap.size) ⟨B2.out.1.trans q,qP2 B2.out.2 q.size⟩;have Z3:=zH (z.2 Z _ _ _ Z2.out (show ¬(TEn=TU8)by decide));clear j O2 B2 Z2 y q z;have a0:=zH (qP l 4 za za (K:=4) rfl p3 (20+26*k+8+2+8) c3 B _ v3 (qz O3.out) za (B3.out.2) za);obtain⟨y0,y1,y2,y3,y4⟩:=cells5 Z3.out;go_wp2_with fail;clear y0 y1 y2 y3 y4;(with_reducible refine a0.out.mono ?_);rintro e v4 ⟨p4,c4,rfl,y,q,z⟩;have O4:=zH y;have B4:=yT (yM B w v4/\B<=v4.heap.size) ⟨B3.out.1.trans q,qP2 B3.out.2 q.size⟩;have Z4:=zH (z.2 Z _ _ _ Z3.out (show ¬(TEn=TU8)by decide));clear a0 O3 B3 Z3 y q z;have m:=zH (qPc u 4 za za (K:=4) rfl p4 (20+26*k+8+2+8+4) c4 B _ v4 (qz O4.out) za (B4.out.2) za);obtain⟨y0,y1,y2,y3,y4⟩:=cells5 Z4.out;go_wp2_with fail;clear y0 y1 y2 y3 y4;(with_reducible refine m.out.mono ?_);rintro e v5 ⟨p5,c5,rfl,y,q,z⟩;have O5:=zH y;have B5:=yT (yM B w v5/\B<=v5.heap.size) ⟨B4.out.1.trans q,qP2 B4.out.2 q.size⟩;have Z5:=zH (z.2 Z _ _ _ Z4.out (show ¬(TEn=TU8)by decide));clear m O4 B4 Z4 y q z;have O9:=yT (yu v5 B TU8 p5 (20+26*(k+1)) c5 ((qKh a n++(ents a5 ps (k+1)).flatMap enB).map xC)) (by rw[HX.out];exact O5.out);go_wp2;go_roundw
   case rel=>exact⟨k+1,c5,p5,za,by go_num,zh,O9,B5⟩
   case measure=>exact z8
  .obtain rfl:k=n:=za
   have G:=Kit.Src.text (P:=yK) (n:=20+26*k) (c:=c0) (src:=TBy) (dst:=9) s.out.src (by rw[qP0,qMp,qJv]) underlying109 underlying5 underlying9;obtain⟨B9,HC⟩:=yU b.out.1 G;clear s b G;have G:=HC.out;go_wp2;go_ret2;exact⟨rfl,B9.out⟩
end Sd
namespace Sd
open Bt Zr Sq St Bk
open Front (ival)
abbrev TRd:yE:=310
def RS (w:yC) (R:Nat) (l:List UInt8):Prop:=w.heap[R]? =yA (qp #[qY ⟨l.toArray⟩,qh yI] TRd)
theorem qIa {w:yC} {B:Nat} {u v:yD} {t:yE} (h:w.heap[B]? =yA (qp #[u,v] t)):w.cell? ⟨B,0,yB⟩=yA u/\w.cell? ⟨B,1,yB⟩=yA v/\w.frozen? ⟨B,0,yB⟩=yI/\w.frozen? ⟨B,1,yB⟩=yI:=
 ⟨by simp[yQ,h],by simp[yQ,h],by simp[World.frozen?,h],by simp[World.frozen?,h]⟩
def pre (k n j:Nat):Nat:=n/256^(k-j)
theorem qM0:∀(k n j:Nat),j<k->(be k n)[j]? =yA (byt n (k-1-j))
 |0,_,_,h=>za
 |k+1,n,0,_=>by rw[be];simp
 |k+1,n,j+1,h=>by
  rw[be,List.getElem?_cons_succ,qM0 k n j za];congr 2;omega
theorem qN6 (v b:Nat) (hv:v<36028797018963968) (d:b<256):bits .or .u64 (IntKind.u64.wrap ((v:Int)*256)) (IntKind.u64.wrap (b:Int))=((v*256+b:Nat):Int):=by
 have a:IntKind.u64.wrap ((v:Int)*256)=((v*256:Nat):Int):=by rw[qSh _ ⟨za,za⟩];omega
 have c:IntKind.u64.wrap (b:Int)=(b:Int):=qSh _ ⟨za,za⟩;rw[a,c,u64_or_nat _ _ za za];congr 1;have h:=Nat.shiftLeft_add_eq_or_of_lt (i:=8) (b:=b) za v;rw[Nat.shiftLeft_eq]at h;exact h.symm
theorem qN (k n j:Nat) (h:j<k):pre k n (j+1)=pre k n j*256+(byt n (k-1-j)).toNat:=by
 unfold pre byt;obtain⟨d,hd⟩:∃d,k-j=d+1:=⟨k-j-1,za⟩;rw[hd,show k-(j+1)=d from za,show k-1-j=d from za,qRq,<-Nat.div_div_eq_div_mul];simp;omega
theorem qOk (k n j:Nat):pre k n j<=n:=Nat.div_le_self _ _
theorem qOj (k n j:Nat) (h:j<k):pre k n j<=n/256:=by
 unfold pre;obtain⟨d,hd⟩:∃d,k-j=d+1:=⟨k-j-1,za⟩;rw[hd,qRq,qRo,<-Nat.div_div_eq_div_mul];exact Nat.div_le_self _ _
theorem zHq (R n k:Nat) (P:n<4611686018427387904) (O:k=8\/k=4\/k=2) (B:n<256^k) {K:Int} (V:(k:Int)=K) (t:List UInt8) (ht:kN t<=1000000) (w:yC) (h:RS w R (be k n++t)):
  yG yK 186 #[qc (yA ⟨R,0,yB⟩),qX qm K] w fun e w'=>e=qx (qX qm (n:Int))/\RS w' R t/\(∀b,b≠R->w'.heap[b]? =w.heap[b]?)/\w'.heap.size=w.heap.size/\yM R w w':=by
 subst V;obtain⟨G,HK,r⟩:=yV h O B;obtain⟨c0,c1,I,L⟩:=qIa h;have a1:k<=8:=za
 obtain⟨s,x⟩:=zB ((⟨(be k n++t).toArray⟩:ByteArray));have a2:s.size=k+kN t:=by rw[<-x];simp[ByteArray.size,qIn]
 rw[x]at c0;have H:=zH x;clear h O B x;go_enter func186,ntmps186;go_wp2;clear c1 I L;go_loopw [5,8] (fun W iv wr=>∃(j v:Nat),j<=k/\yL (v<4611686018427387904)/\iv=qX qm j/\W=qX .u64 v/\yL (pre k n j=v)/\w=wr) (fun _ iv _=>k-(intOf iv).toNat)
 case atStart=>exact⟨0,0,za,zH za,rfl,rfl,zH (by unfold pre;rw[Nat.sub_zero];exact Nat.div_eq_of_lt r.out),rfl⟩
 case round=>
  obtain⟨j,v,hj,hv,rfl,rfl,u,rfl⟩:=hrel;by_cases a:j<k
  .have a0:(j:Int)<(s.size:Int):=za
   obtain⟨X,N⟩:=zB (IntKind.u64.wrap ((v:Int)*256));obtain⟨HX,F⟩:=yU N P;clear P;have z:(s[j]' za).toNat=(byt n (k-1-j)).toNat:=by
    have y:s.data[j]? =yA (byt n (k-1-j)):=by
     rw[<-H.out];simp only[List.getElem?_toArray];rw[qR7 (by rw[qIn];exact a),qM0 k n j a]
    have M:s.data[j]? =yA (s[j]' za):=qT3 _;rw[M]at y;rw[qPv y]
   obtain⟨b,q⟩:=zB ((byt n (k-1-j)).toNat);have i:b<256:=by rw[<-q];exact qTi _
   have d:=qN k n j a;rw[u.out,q]at d;have g:=qOj k n j a;rw[u.out]at g;have c:=qN6 v b (by have:=F.out;omega) i;rw[N]at c;obtain⟨l,f,m⟩:=yV c d (qOk k n (j+1));rw[q]at z;have S:=zH z;clear z c d g q u i;go_wp2;go_roundw
   case rel=>
    refine⟨j+1,v*256+b,za,zH (by have y:=f.out;have M:=m.out;have h3:=F.out;omega),by go_num,?_,f,trivial⟩;rw[S.out,l.out]
   case measure=>exact z8
  .obtain rfl:j=k:=za
   have o:v=n:=by have:=u.out;unfold pre at this;rw[Nat.sub_self,Nat.pow_zero,Nat.div_one]at this;exact this.symm
   subst o;have Y:s.extract j (j+kN t)=(⟨t.toArray⟩:ByteArray):=by
    rw[<-H.out];apply ByteArray.ext;simp[ByteArray.data_extract,qIn]
   have Z:((v:Int)/9223372036854775808==1)=yI:=by rw[Int.ediv_eq_zero_of_lt za za];rfl
   obtain⟨c0,c1,I,L⟩:=qIa G.out;go_wp2;go_ret;exact⟨rfl,zA3 1 _ (zA3 0 _ G.out),fun b q=>(zAa q).trans (zAa q),zm,((yR R w).setCell (p:=⟨R,0,yB⟩) (qPq _) _).setCell (p:=⟨R,1,yB⟩) (qPq _) _⟩
end Sd
namespace Sd
open Hf Bt Zr Wg Ch St Bk Sm Ix2
open Front (ival)
variable {w w':yC} {B R:Nat}
theorem qIj {α:Type} {L:xV α} {e:yE} {a:Option yF} {n c:Nat} {xs:List α} (h:yx L w B e a n c xs) (m:∀b,b≠R->w'.heap[b]? =w.heap[b]?) (o:R<B):yx L w' B e a n c xs:=by
 obtain⟨k,j⟩:=h;refine⟨k,?_⟩;rcases j with j|⟨g,i,d,hv,f,l,r⟩
 .exact qz j
 .exact qy ⟨g,i,d,hv,f,(m g za).trans l,r⟩
theorem RS.below {l:List UInt8} (h:RS w R l) (b:yM B w w') (a:R<B):RS w' R l:=(b.block R a).trans h
theorem qMu (a:Nat) (b:List T) (n k:Nat) (c:k<n):(ents a b n).drop k=qIi a b k::(ents a b n).drop (k+1):=by
 have h:=qIx a b n k c;have d:k<kN (ents a b n):=by rw[qLc];exact c
 rw[qSb d];rw[qPu d]at h;rw[qPv h]
theorem qD3 (a:Nat) (b:List T) (n k:Nat):kN (((ents a b n).drop k).flatMap enB)<=26*n:=by
 have h:=qPs List.length (qPs (List.flatMap enB) (qSa k (ents a b n)));rw[List.flatMap_append,qP0,qJv]at h;omega
theorem zZq (ah n:Nat) (ps:List T) (P:Ps ah ps n) (a:ByteArray) (ha:a.size<=100000000) (w:yC):
  yG yK 136 #[qY ⟨(qK3 a n (ents ah ps n)).toArray⟩] w fun e w'=>∃p c,e=qx (qg #[qZ p n c,qX qm (a.size:Int),qX .u32 (zBa a.data.toList:Int),.nilIface])/\yx LEn w' w.heap.size TEn p n c (ents ah ps n)/\yM w w w':=by
 have HP:=zH P;have hn:=P.many;have h1:=P.lo;have h9:=P.hi;have aj:zBa a.data.toList<4294967296:=by unfold zBa;exact(xD a.data.toList).isLt
 have d:=qJv ah ps n;obtain⟨FL,j⟩:=zB ((ents ah ps n).flatMap enB);rw[j]at d;have af:=zH j;obtain⟨s,hs⟩:=zB ((⟨(qK3 a n (ents ah ps n)).toArray⟩:ByteArray));have ag:s.size=20+26*n:=by rw[<-hs];unfold qK3;rw[j];simp[ByteArray.size,qMp,d]
 have ab:s.extract 0 4=⟨#[80,77,105,49]⟩:=by
  rw[<-hs];apply ByteArray.ext;simp[ByteArray.data_extract,qK3,qKh]
 have ad:s.extract 4 (20+26*n)=⟨(be 8 a.size++(be 4 (zBa a.data.toList)++(be 4 n++FL))).toArray⟩:=by
  rw[<-hs];apply ByteArray.ext;simp[ByteArray.data_extract,qK3,qKh,j];rw[qQc];simp only[qP0,qIn,d];omega
 rw[hs];obtain⟨B,hB⟩:=zB w.heap.size;have HB:=zH hB;rw[hB];clear P hB hs j;go_enter func136,ntmps136;obtain⟨w1,o⟩:=zB (w.alloc (qp #[qY ⟨(be 8 a.size++(be 4 (zBa a.data.toList)++(be 4 n++FL))).toArray⟩,qh yI] TRd));have Y:=yT (RS w1 B (be 8 a.size++(be 4 (zBa a.data.toList)++(be 4 n++FL)))) (by rw[<-o,<-HB.out];exact zAh w _);have B0:=yT (yM B w w1/\w1.heap.size=B+1) ⟨by rw[<-o,<-HB.out];exact(yR _ _).alloc (qPq _) _,by rw[<-o,zA,HB.out]⟩;have a0:=zH o;clear o;go_wp2_with fail;rw[HB.out,show w.alloc (qp #[qY ⟨(be 8 a.size++(be 4 (zBa a.data.toList)++(be 4 n++FL))).toArray⟩,qh yI] TRd)=w1 from a0.out];have m:=zH (zHq B a.size 8 za za za (K:=8) rfl (be 4 (zBa a.data.toList)++(be 4 n++FL)) (by simp only[qP0,qIn,d];omega) w1 Y.out);(with_reducible refine m.out.mono ?_);rintro e w2 ⟨rfl,y,hk,hz,q⟩;have a7:=zH y;have B1:=yT (yM B w w2/\w2.heap.size=B+1) ⟨B0.out.1.trans q,hz.trans B0.out.2⟩;clear m Y B0 y hk hz q;have F:=zH (zHq B (zBa a.data.toList) 4 za za za (K:=4) rfl (be 4 n++FL) (by simp only[qP0,qIn,d];omega) w2 a7.out);go_wp2_with fail;(with_reducible refine F.out.mono ?_);rintro e w3 ⟨rfl,y,hk,hz,q⟩;have a1:=zH y;have B2:=yT (yM B w w3/\w3.heap.size=B+1) ⟨B1.out.1.trans q,hz.trans B1.out.2⟩;clear F a7 B1 y hk hz q;have t:=zH (zHq B n 4 za za za (K:=4) rfl (FL) (by simp only[qP0,qIn,d];omega) w3 a1.out);go_wp2_with fail;(with_reducible refine t.out.mono ?_);rintro e w4 ⟨rfl,y,hk,hz,q⟩;have I:=zH y;have B3:=yT (yM B w w4/\w4.heap.size=B+1) ⟨B2.out.1.trans q,hz.trans B2.out.2⟩;clear t a1 B2 y hk hz q;obtain⟨y0,y1,_,_⟩:=qIa I.out;have ae:(⟨FL.toArray⟩:ByteArray).size=26*n:=by simp[ByteArray.size,d]
 go_wp2;have X:=yT (RS w4 B (((ents ah ps n).drop 0).flatMap enB)) (by rw[qR1,af.out];exact I.out);have B4:=yT (yM B w w4/\B+1<=w4.heap.size) ⟨B3.out.1,by rw[B3.out.2];exact qPq _⟩;clear I B3 y0 y1 ae d ab ad ag a0;go_loopw [2,53] (fun lv iv wr=>∃(k c':Nat) (p':Option yF),k<=n/\iv=qX qm k/\lv=qZ p' k c'/\yL (yx LEn wr (B+1) TEn p' k c' (ents ah ps k))/\yL (RS wr B (((ents ah ps n).drop k).flatMap enB))/\yL (yM B w wr/\B+1<=wr.heap.size)) (fun _ iv _=>n-(intOf iv).toNat)
 case atStart=>exact⟨0,0,yB,qQl _,rfl,rfl,zH (Kit.Own'.start _ _ _),X,B4⟩
 case round=>
  clear X B4;obtain⟨k,c0,p0,hk,rfl,rfl,O0,H,B4⟩:=hrel;by_cases a3:k<n
  .obtain⟨i,r,f,l,ub,hx⟩:∃i r f l u,qIi ah ps k=⟨i,r,f,l,u⟩:=⟨_,_,_,_,_,rfl⟩;obtain⟨q1,q2⟩:=HP.out.one a3;have aa:=HP.out.far k za;have O:=hx;unfold qIi at O;injection O with x1 x2 x3 x4 x5
   rw[x1]at aa;rw[q1,x3,x4]at q2;obtain⟨u,hu⟩:=zB ub.toNat;have ak:u<4294967296:=by rw[<-hu];exact ub.isLt
   have ai:r<=360:=za
   obtain⟨b,g⟩:=zB (((ents ah ps n).drop (k+1)).flatMap enB);have x:=yT (kN b<=26000) (by have:=qD3 ah ps n (k+1);rw[g]at this;omega);have S:=yT (RS wr B (be 8 i++(be 2 r++(be 8 f++(be 4 l++(be 4 u++b)))))) (by have h:=H.out;rw[qMu ah ps n k a3,qSk,g,hx]at h;simp only[enB,hu,qQr]at h;exact h)
   have HX:=zH hx;have HU:=yT (zAx ub=qX .u32 (u:Int)) (by unfold zAx xJ;rw[hu]);have M:=zH g;clear H hx x1 x2 x3 x4 x5 q1 hu g;have m:=zH (zHq B i 8 za za za (K:=8) rfl (be 2 r++(be 8 f++(be 4 l++(be 4 u++b)))) (by(try simp only[qP0,qIn]);have:=x.out;omega) wr S.out);go_wp2_with fail;(with_reducible refine m.out.mono ?_);rintro e v1 ⟨rfl,y,hk,hz,q⟩;obtain⟨Z,O1⟩:=yU y (qIj O0.out hk za);have B5:=yT (yM B w v1/\B+1<=v1.heap.size) ⟨B4.out.1.trans q,by rw[hz];exact B4.out.2⟩;clear m S O0 B4 y hk hz q;have F:=zH (zHq B r 2 za za za (K:=2) rfl (be 8 f++(be 4 l++(be 4 u++b))) (by(try simp only[qP0,qIn]);have:=x.out;omega) v1 Z.out);go_wp2_with fail;(with_reducible refine F.out.mono ?_);rintro e v2 ⟨rfl,y,hk,hz,q⟩;obtain⟨R,O2⟩:=yU y (qIj O1.out hk za);have B6:=yT (yM B w v2/\B+1<=v2.heap.size) ⟨B5.out.1.trans q,by rw[hz];exact B5.out.2⟩;clear F Z O1 B5 y hk hz q;have t:=zH (zHq B f 8 za za za (K:=8) rfl (be 4 l++(be 4 u++b)) (by(try simp only[qP0,qIn]);have:=x.out;omega) v2 R.out);go_wp2_with fail;(with_reducible refine t.out.mono ?_);rintro e v3 ⟨rfl,y,hk,hz,q⟩;obtain⟨V,O3⟩:=yU y (qIj O2.out hk za);have B7:=yT (yM B w v3/\B+1<=v3.heap.size) ⟨B6.out.1.trans q,by rw[hz];exact B6.out.2⟩;clear t R O2 B6 y hk hz q;have a8:=zH (zHq B l 4 za za za (K:=4) rfl (be 4 u++b) (by(try simp only[qP0,qIn]);have:=x.out;omega) v3 V.out);go_wp2_with fail;(with_reducible refine a8.out.mono ?_);rintro e v4 ⟨rfl,y,hk,hz,q⟩;obtain⟨W,O4⟩:=yU y (qIj O3.out hk za);have B8:=yT (yM B w v4/\B+1<=v4.heap.size) ⟨B7.out.1.trans q,by rw[hz];exact B7.out.2⟩;clear a8 V O3 B7 y hk hz q;have a4:=zH (zHq B u 4 za za za (K:=4) rfl (b) (by(try simp only[qP0,qIn]);have:=x.out;omega) v4 W.out);go_wp2_with fail;(with_reducible refine a4.out.mono ?_);rintro e v5 ⟨rfl,y,hk,hz,q⟩;obtain⟨a9,O5⟩:=yU y (qIj O4.out hk za);have B9:=yT (yM B w v5/\B+1<=v5.heap.size) ⟨B8.out.1.trans q,by rw[hz];exact B8.out.2⟩;clear a4 W O4 B8 y hk hz q;obtain⟨p6,c6,w6,a6,N,G,_⟩:=qKb qM za O5.out ⟨i,r,f,l,ub⟩ B9.out.2 za (z:=v5.heap.size) rfl;have O6:=yT (yx LEn w6 (B+1) TEn p6 (k+1) c6 (ents ah ps (k+1))) (by rw[qJ7,HX.out];exact N);have B6:=yT (yM B w w6/\B+1<=w6.heap.size) ⟨B9.out.1.trans (G.mono za),qP2 B9.out.2 G.size⟩;have ac:=yT (RS w6 B (((ents ah ps n).drop (k+1)).flatMap enB)) (by rw[M.out];exact a9.out.below G za);rw[show(LEn.cl ⟨i,r,f,l,ub⟩).toArray= #[qX qm (i:Int),qX qm (r:Int),qX qm (f:Int),qX qm (l:Int),qX .u32 (u:Int)]from by rw[<-HU.out];rfl]at a6;clear N G O5 a9 B9;go_wp2_with (at_builtin;refine xG rfl (.tmp 55) (.tmp 63) TEs rfl rfl rfl a6 ?_);go_roundw
   case rel=>exact⟨k+1,c6,p6,za,by go_num,rfl,O6,ac,B6⟩
   case measure=>exact z8
  .obtain rfl:k=n:=za
   have a5:k<=c0:=by
    rcases qQz k with h|h
    .omega
    .obtain⟨_,_,_,_,h⟩:=O0.out.at_ h;exact h
   have a2:=zH (zGf ah k ps HP.out p0 c0 wr O0.out.rd a5);obtain⟨y0,y1,_,_⟩:=qIa H.out;clear H y0 a5;go_wp2_with fail;(with_reducible refine a2.out.mono ?_);rintro e v1 ⟨rfl,L⟩;obtain⟨B5,O1⟩:=yU (B4.out.1.trans (L.mono (qP2 za B4.out.2))) ((O0.out.below L (qPq _)).base (show B<=B+1 by omega));clear a2 L B4 O0 y1;go_wp2;refine qP5 (v:=qg #[qZ p0 k c0,qX qm (a.size:Int),qX .u32 (zBa a.data.toList:Int),.nilIface]) zf rfl ?_;exact⟨p0,c0,rfl,O1.out,B5.out⟩
end Sd
namespace Sd
open Zr Wg St Tn Bk Sm Ix2
open Front (ival)
theorem qKi {α:Type} {L:xV α} {w:yC} {B:Nat} {e:yE} {a:Option yF} {n c:Nat} {xs:List α} (h:yx L w B e a n c xs):n<=c:=by
 rcases qQz n with b|b
 .omega
 .obtain⟨_,_,_,_,h⟩:=h.at_ b;exact h
def enV (x:En):yD:= .agg #[qX qm (x.i:Int),qX qm (x.r:Int),qX qm (x.f:Int),qX qm (x.l:Int),zAx x.u]
theorem qPg {ρ:Operand->yD} {o:Oper} {u:yE} {x y:Operand} {e:En} (c:o.op= .binOp .neq TEn x y u) (a:ρ x=enV e) (b:ρ y=enV e) (w:yC):(execOp ρ o).run yK w= .ok (.value (qh yI)) w:=by
 unfold execOp;unfold enV zAx at a b;simp[c,a,b,go_sem]
theorem qPj (n:Nat) (l:List En) (O:kN l=n) (Y:n<=100000) (p q:Option yF) (c d:Nat) (w:yC) (h:xP LEn w p l) (g:xP LEn w q l) (W:n<=c) (hd:n<=d):
  yG yK 138 #[qZ p n c,qZ q n d] w fun e w'=>e=qx (qh yH)/\yM w w w':=by
 obtain⟨H,G,R⟩:=yV h g O;have j:((n:Int)!=(n:Int))=yI:=by simp
 clear h g O;go_enter func138,ntmps138;go_wp2;clear j;go_loopw [13] (fun iv wr=>∃k:Nat,k<=n/\iv=qX qm k/\yL (yM w w wr)) (fun iv _=>n-(intOf iv).toNat)
 case atStart=>exact⟨0,qQl _,rfl,zH (yR _ _)⟩
 case round=>
  obtain⟨k,X,rfl,a⟩:=hrel;by_cases f:k<n
  .have b:k<kN l:=by rw[R.out];exact f
   obtain⟨g1,m,rfl,r,s,u,z,B⟩:=rdE (H.out.below a.out rfl) k _ (qPu b);obtain⟨g2,o,rfl,F,I,K,M,N⟩:=rdE (G.out.below a.out rfl) k _ (qPu b);obtain⟨x,P⟩:=zB (l[k]);rw[P]at r s u z B F I K M N;have BW:=zH a.out;have S:=yT ((loadVar TEn ⟨g1,m+k*5,yB⟩).run yK wr.drew= .ok (enV x) wr.drew) (Kit.zHe (L:=LEn) (x:=x) (fun i hi=>by
    have h:i=0\/i=1\/i=2\/i=3\/i=4:=by have:i<5:=hi;omega
    rcases h with rfl|rfl|rfl|rfl|rfl
    .exact r
    .exact s
    .exact u
    .exact z
    .exact B) (fun _=>sizeOf107 _) (fun _=>isAgg107 _))
   have V:=yT ((loadVar TEn ⟨g2,o+k*5,yB⟩).run yK wr.drew= .ok (enV x) wr.drew) (Kit.zHe (L:=LEn) (x:=x) (fun i hi=>by
    have h:i=0\/i=1\/i=2\/i=3\/i=4:=by have:i<5:=hi;omega
    rcases h with rfl|rfl|rfl|rfl|rfl
    .exact F
    .exact I
    .exact K
    .exact M
    .exact N) (fun _=>sizeOf107 _) (fun _=>isAgg107 _))
   clear P a r s u z B F I K M N;go_wp2;refine zS [] (fun _=>True) [0,0,3,4,0,0,48,64,136] 9<|zp [0,1,2,3,4,5,6,7,8]<|zk 16 (qZ (yA ⟨g1,m,yB⟩) n c)<|zk 17 (zI k)<|zt 18 (qc (yA ⟨g1,m+k*5,yB⟩)) (Kit.qCt (t:=30) (x:=(.tmp 16)) (y:=(.tmp 17)) (g:=g1) (off:=m) (n:=n) (c:=c) (k:=k) (sz:=5) rfl zf zf za underlying30 (fun _=>sizeOf107 _) _)<|zt 19 (enV x) (zl 107 18 (S.out))<|zk 20 (qZ (yA ⟨g2,o,yB⟩) n d)<|zk 21 (zI k)<|zt 22 (qc (yA ⟨g2,o+k*5,yB⟩)) (Kit.qCt (t:=30) (x:=(.tmp 20)) (y:=(.tmp 21)) (g:=g2) (off:=o) (n:=n) (c:=d) (k:=k) (sz:=5) rfl zf zf za underlying30 (fun _=>sizeOf107 _) _)<|zt 23 (enV x) (zl 107 22 (V.out))<|zt 24 (qh yI) (qPg (e:=x) (x:= .tmp 19) (y:= .tmp 23) rfl zf zf _)<|zn<|zE<| ?_
   simp only[zP,zI,Act.put,qPx,qPw,qPy];go_wp2;go_roundw
   case rel=>exact⟨k+1,za,by go_num,zH BW.out.drew⟩
   case measure=>exact z8
  .obtain rfl:k=n:=za
   have BW:=zH a.out;clear a;go_wp2;go_ret;exact⟨rfl,BW.out⟩
theorem qPm (k n:Nat) (l:List T) (A:Arc k l (zCt k l) n) (P:Ps k l n) (y:(zCt k l).size<=100000000) (w:yC):
  yG yK 60 #[qY (zCt k l),qY ⟨(qK3 (zCt k l) n (ents k l n)).toArray⟩] w fun e w'=>∃p c,e=qx (qg #[qZ p n c,qX qm 0])/\yx LEn w' w.heap.size TEn p n c (ents k l n)/\yM w w w':=by
 have R:=P.all;have X:=P.many;obtain⟨a,I⟩:=zB (zCt k l);rw[I]at A y⊢;obtain⟨b,g,i⟩:=yV (zZq k n l P a y w) (fun w=>qM7 k n l a A za w) (fun W=>(show yG yK 25 #[qY a] W fun e w'=>e=qx (qX .u32 (zBa a.data.toList:Int))/\yM W W w' from by
  have h:=Crc.zG7 a (by unfold maxLen;omega) W;rw[show(zBa a.data.toList:Int)=xJ (xD a.data.toList)from by unfold xJ zBa;rfl];exact h))
 obtain⟨s,L⟩:=zB ((⟨(qK3 a n (ents k l n)).toArray⟩:ByteArray));rw[L]at b⊢;obtain⟨B,u⟩:=zB w.heap.size;have HB:=zH u;rw[u]at b⊢;have S:((zBa a.data.toList:Int)!=(zBa a.data.toList:Int))=yI:=by simp
 have V:((a.size:Int)!=(a.size:Int))=yI:=by simp
 clear A P I L u;go_enter func60,ntmps60;go_wp2_with fail;(with_reducible refine b.out.mono ?_);rintro e M ⟨p,c,rfl,K,j⟩;have z:=zH K;have o:=yT (yM B w M/\B<=M.heap.size) ⟨j,by have:=j.size;have:=HB.out;omega⟩;clear b K j;go_wp2_with fail;(with_reducible refine(i.out _).mono ?_);rintro e w2 ⟨rfl,j⟩;have F:=zH (z.out.below j (qPq _));have m:=yT (yM B w w2/\B<=w2.heap.size) ⟨o.out.1.trans (j.mono o.out.2),qP2 o.out.2 j.size⟩;clear i j z o;go_wp2_with fail;(with_reducible refine(g.out _).mono ?_);rintro e x ⟨q,d,rfl,r,j⟩;have G:=zH (F.out.below j (qPq _));have t:=yT (yM B w x/\B<=x.heap.size) ⟨m.out.1.trans (j.mono m.out.2),qP2 m.out.2 j.size⟩;obtain⟨f,H⟩:=yU (qPj n (ents k l n) (qLc k l n) za q p d c x r.rd G.out.rd (qKi r) (qKi G.out)) (r.base m.out.2);clear g j F m r;go_wp2_with fail;(with_reducible refine f.out.mono ?_);rintro e Y ⟨rfl,j⟩;obtain⟨O,N⟩:=yU (H.out.below j (qPq _)) (t.out.1.trans (j.mono t.out.2));clear f j H t;go_wp2;go_ret2;exact⟨q,d,rfl,O.out,N.out⟩
end Sd
namespace Sk
open Bt Ch Tn Sm Ix2
open Front (ival)
structure Rr where
 st:Nat
 o:Nat
 n:Nat
 b:Nat
 l:Nat
 got:ByteArray
 txt:ByteArray
def free:Rr:=⟨0,0,0,0,0,⟨#[]⟩,⟨#[]⟩⟩
def LRr:xV Rr where
 k:=7
 pos:=za
 cl x:=[qX qm (x.st:Int),qX qm (x.o:Int),qX qm (x.n:Int),qX qm (x.b:Int),qX qm (x.l:Int),qY x.got,qY x.txt]
 len _:=rfl
 one m:=by simp[Value.oneCell']
def LHd:xV Cache.Hd where
 k:=3
 pos:=za
 cl x:=[qX qm x.blk,qX qm x.st,qY x.txt]
 len _:=rfl
 one m:=by simp[Value.oneCell']
abbrev TRr:yE:=243
abbrev qKl:yE:=37
abbrev THd:yE:=212
abbrev qLh:yE:=34
theorem qOu:Kit.zVx yK qKl TRr LRr.k 72:=⟨underlying37,⟨.agg #[qX qm 0,qX qm 0,qX qm 0,qX qm 0,qX qm 0,qY ⟨#[]⟩,qY ⟨#[]⟩],zf,rfl⟩⟩
theorem qO2:Kit.zVx yK qLh THd LHd.k 32:=⟨underlying34,⟨.agg #[qX qm 0,qX qm 0,qY ⟨#[]⟩],zf,rfl⟩⟩
theorem qI3 {w:yC} {a:Option yF} {l:List Cache.Hd}:Cache.qIg w a l↔xP LHd w a l:=by
 constructor
 .intro h j x f;obtain⟨b,c,d,g,k,m⟩:=h j x f;refine⟨b,c,d,fun i hi=> ?_⟩;have:i=0\/i=1\/i=2:=by have:i<3:=hi;omega
  rcases this with rfl|rfl|rfl
  .exact g
  .exact k
  .exact m
 .intro h j x f;obtain⟨b,c,d,e⟩:=h j x f;exact⟨b,c,d,e 0 qW,e 1 qW,e 2 qW⟩
def qIz (p:Option yF) (n c:Nat):Prop:=p=yB->n=0/\c=0
theorem qNu (l:List En) (n:Nat) (u:kN l=n) (K:n<=100000) (p:Option yF) (c:Nat) (x:qIz p n c) (w:yC) (h:xP LEn w p l):
  yG yK 192 #[qZ p n c] w fun e w'=>∃t c',e=qx (qZ t n c')/\yx LEn w' w.heap.size TEn t n c' l/\qIz t n c'/\yM w w w':=by
 cases p with
 |none=>
  obtain⟨z,i⟩:=x rfl;subst z i;have j:l=[]:=qQ0 u;subst j;have G:∀w,(binOp .eql TEs (qZ yB 0 0) (qZ yB 0 0)).run yK w= .ok (qh yH) w:=fun _=>zf
  go_enter func192,ntmps192;go_wp2;go_ret;exact⟨yB,0,rfl,Kit.Own'.start _ _ _,fun _=>⟨rfl,rfl⟩,yR _ _⟩
 |some q=>
  have s:yx LEn (w.alloc (qp #[] TEn)) w.heap.size TEn (yA ⟨w,0,yB⟩) 0 0 ([]:List En):=Kit.zNf (L:=LEn) w [] TEn w.heap.size (qPq _) (by unfold maxLen;simp);have b:yM w w (w.alloc (qp #[] TEn)):=(yR _ _).alloc (qPq _) _;obtain⟨y,c3,M,d,a,f⟩:=s.app (ty:=TEs) qM (yA q) n c l (h.below b rfl) u (fun h=>by cases h) (by unfold maxLen;omega) za (by rw[zA];omega);rw[qQd]at d a;rw[qQm]at a;have m:=b.trans (xR f (by rw[zA];omega) (fun k F=>s.block k F));have o:qIz y n c3:=fun e=>by
   subst e;obtain⟨_,r⟩:=a;rcases r with⟨r,B⟩|⟨g,H,I,hv,_⟩
   .injection r with _ h5 h6;exact⟨B,h6⟩
   .injection hv with ha;cases ha
  have G:∀w,(binOp .eql TEs (qZ (yA q) n c) (qZ yB 0 0)).run yK w= .ok (qh yI) w:=fun _=>zf
  clear s b f h x;go_enter func192,ntmps192;go_wp2_with (at_builtin;refine xG rfl (.tmp 5) (.tmp 6) TEs rfl rfl rfl d ?_);go_ret;exact⟨y,c3,rfl,a,o,m⟩
theorem qNt (l:List Cache.Hd) (n:Nat) (u:kN l=n) (K:n<=100000) (p:Option yF) (c:Nat) (x:qIz p n c) (w:yC) (h:xP LHd w p l):
  yG yK 193 #[qZ p n c] w fun e w'=>∃t c',e=qx (qZ t n c')/\yx LHd w' w.heap.size THd t n c' l/\qIz t n c'/\yM w w w':=by
 cases p with
 |none=>
  obtain⟨z,i⟩:=x rfl;subst z i;have j:l=[]:=qQ0 u;subst j;have G:∀w,(binOp .eql qLh (qZ yB 0 0) (qZ yB 0 0)).run yK w= .ok (qh yH) w:=fun _=>zf
  go_enter func193,ntmps193;go_wp2;go_ret;exact⟨yB,0,rfl,Kit.Own'.start _ _ _,fun _=>⟨rfl,rfl⟩,yR _ _⟩
 |some q=>
  have s:yx LHd (w.alloc (qp #[] THd)) w.heap.size THd (yA ⟨w,0,yB⟩) 0 0 ([]:List Cache.Hd):=Kit.zNf (L:=LHd) w [] THd w.heap.size (qPq _) (by unfold maxLen;simp);have b:yM w w (w.alloc (qp #[] THd)):=(yR _ _).alloc (qPq _) _;obtain⟨y,c3,M,d,a,f⟩:=s.app (ty:=qLh) qO2 (yA q) n c l (h.below b rfl) u (fun h=>by cases h) (by unfold maxLen;omega) za (by rw[zA];omega);rw[qQd]at d a;rw[qQm]at a;have m:=b.trans (xR f (by rw[zA];omega) (fun k F=>s.block k F));have o:qIz y n c3:=fun e=>by
   subst e;obtain⟨_,r⟩:=a;rcases r with⟨r,B⟩|⟨g,H,I,hv,_⟩
   .injection r with _ h5 h6;exact⟨B,h6⟩
   .injection hv with ha;cases ha
  have G:∀w,(binOp .eql qLh (qZ (yA q) n c) (qZ yB 0 0)).run yK w= .ok (qh yI) w:=fun _=>zf
  clear s b f h x;go_enter func193,ntmps193;go_wp2_with (at_builtin;refine xG rfl (.tmp 5) (.tmp 6) qLh rfl rfl rfl d ?_);go_ret;exact⟨y,c3,rfl,a,o,m⟩
theorem qNs (l:List Rr) (n:Nat) (u:kN l=n) (K:n<=100000) (p:Option yF) (c:Nat) (x:qIz p n c) (w:yC) (h:xP LRr w p l):
  yG yK 194 #[qZ p n c] w fun e w'=>∃t c',e=qx (qZ t n c')/\yx LRr w' w.heap.size TRr t n c' l/\qIz t n c'/\yM w w w':=by
 cases p with
 |none=>
  obtain⟨z,i⟩:=x rfl;subst z i;have j:l=[]:=qQ0 u;subst j;have G:∀w,(binOp .eql qKl (qZ yB 0 0) (qZ yB 0 0)).run yK w= .ok (qh yH) w:=fun _=>zf
  go_enter func194,ntmps194;go_wp2;go_ret;exact⟨yB,0,rfl,Kit.Own'.start _ _ _,fun _=>⟨rfl,rfl⟩,yR _ _⟩
 |some q=>
  have s:yx LRr (w.alloc (qp #[] TRr)) w.heap.size TRr (yA ⟨w,0,yB⟩) 0 0 ([]:List Rr):=Kit.zNf (L:=LRr) w [] TRr w.heap.size (qPq _) (by unfold maxLen;simp);have b:yM w w (w.alloc (qp #[] TRr)):=(yR _ _).alloc (qPq _) _;obtain⟨y,c3,M,d,a,f⟩:=s.app (ty:=qKl) qOu (yA q) n c l (h.below b rfl) u (fun h=>by cases h) (by unfold maxLen;omega) za (by rw[zA];omega);rw[qQd]at d a;rw[qQm]at a;have m:=b.trans (xR f (by rw[zA];omega) (fun k F=>s.block k F));have o:qIz y n c3:=fun e=>by
   subst e;obtain⟨_,r⟩:=a;rcases r with⟨r,B⟩|⟨g,H,I,hv,_⟩
   .injection r with _ h5 h6;exact⟨B,h6⟩
   .injection hv with ha;cases ha
  have G:∀w,(binOp .eql qKl (qZ (yA q) n c) (qZ yB 0 0)).run yK w= .ok (qh yI) w:=fun _=>zf
  clear s b f h x;go_enter func194,ntmps194;go_wp2_with (at_builtin;refine xG rfl (.tmp 5) (.tmp 6) qKl rfl rfl rfl d ?_);go_ret;exact⟨y,c3,rfl,a,o,m⟩
end Sk
namespace Sk
open Zr Ch Tn Sm Ix2 Sd
open Front (ival)
variable {P:Program} {ρ:Operand->yD} {o:Oper} {x y:Operand} {t u:yE} {m n r:Int}
def paF (o f:Nat):Nat:=o-f
def paT (o m f l:Nat):Nat:=max (min (o+m-f) l) (o-f)
theorem qKe (a:o.op= .call {callee:= .builtin .min,args:= #[x,y],argTypes:= #[t,u]}) (c:ρ x=qX qm m) (d:ρ y=qX qm n) (b:min m n=r) (w:yC):(execOp ρ o).run P w= .ok (.value (qX qm r)) w:=by
 unfold execOp;subst b;simp[a,c,d,go_sem]
theorem qOf (a:o.op= .call {callee:= .builtin .max,args:= #[x,y],argTypes:= #[t,u]}) (c:ρ x=qX qm m) (d:ρ y=qX qm n) (b:max m n=r) (w:yC):(execOp ρ o).run P w= .ok (.value (qX qm r)) w:=by
 unfold execOp;subst b;simp[a,c,d,go_sem]
theorem qK6 (e:En) (o m:Nat) (M:e.f<=100000) (N:e.l<=100000) (R:o<=100000000) (O:m<=100000000) (w:yC):
  yG yK 288 #[enV e,o,m] w fun x w'=>x=qx (qg #[qX qm (paF o e.f:Int),qX qm (paT o m e.f e.l:Int)])/\yM w w w':=by
 obtain⟨i,r,f,l,u⟩:=e;simp only at M N⊢;obtain⟨E,z⟩:=zB w.heap.size;obtain⟨W,q⟩:=zB (w.alloc (qp #[i,r,f,l,qX .u32 (xJ u)] TEn));have B:yM w w W:=by rw[<-q];exact(yR _ _).alloc (qPq _) _
 have g:W.drew.heap[E]? =yA (qp #[i,r,f,l,qX .u32 (xJ u)] TEn):=by rw[<-q,<-z];exact zAh w _
 have K:=yT ((loadVar 3 ⟨E,2,yB⟩).run yK W.drew= .ok (qX qm (f:Int)) W.drew) (yw (by simp[yQ,g]) zf zf);have L:=yT ((loadVar 3 ⟨E,3,yB⟩).run yK W.drew= .ok (qX qm (l:Int)) W.drew) (yw (by simp[yQ,g]) zf zf);obtain⟨a,s⟩:=zB (paF o f);obtain⟨b,c⟩:=zB (paT o m f l);have S:max ((o:Int)-(f:Int)) 0=(a:Int):=by rw[<-s];unfold paF;omega
 obtain⟨d,hd⟩:=zB (min ((o:Int)-(f:Int)+(m:Int)) (l:Int));have F:max d (a:Int)=(b:Int):=by rw[<-c,<-hd,<-s];unfold paT paF;omega
 have h:IntKind.i64.wrap ((o:Int)-(f:Int))=(o:Int)-(f:Int):=qQa _ ⟨za,za⟩;have j:IntKind.i64.wrap ((o:Int)-(f:Int)+(m:Int))=(o:Int)-(f:Int)+(m:Int):=qQa _ ⟨za,za⟩;obtain⟨G,n,p,k,HB,I,H⟩:=yg hd F h j B q z;rw[s,c];unfold enV zAx;clear B g q z s c F hd h j;go_enter func288,ntmps288;go_wp2;rw[H.out,show w.alloc (qp #[i,r,f,l,qX .u32 (xJ u)] TEn)=W from I.out];refine zS [] (fun _=>True) [0,0,0,4,10,0,48,0,128,320,0,1536,1025,8191] 14<|zp [0,1,2,3,4,5,6,7,8,9,10,11,12,13]<|zk 13 (zI a)<|zk 14 (zI o)<|zk 15 (zP E 2)<|zt 16 (zI f) (zl 3 15 (K.out))<|zt 17 (qX qm ((o:Int)-(f:Int))) (Kit.zM6 (x:= .tmp 14) (y:= .tmp 16) rfl zf zf p.out _)<|zk 18 (zI m)<|zt 19 (qX qm ((o:Int)-(f:Int)+(m:Int))) (Kit.qCv (x:= .tmp 17) (y:= .tmp 18) rfl zf zf k.out _)<|zk 20 (zP E 3)<|zt 21 (zI l) (zl 3 20 (L.out))<|zt 22 (qX qm d) (qKe (x:= .tmp 19) (y:= .tmp 21) rfl zf zf G.out _)<|zk 23 (zI a)<|zt 24 (zI b) (qOf (x:= .tmp 22) (y:= .tmp 23) rfl zf zf n.out _)<|zk 6 (zI a)<|zk 7 (zI b)<|zn<|zE<| ?_
 simp only[zP,zI,Act.put,qPx,qPw,qPy];go_wp2;go_ret2;exact⟨rfl,HB.out.drew⟩
theorem qKm (o m:Nat) (b:o<=100000000) (a:m<1048576) (w:yC):
  yG yK 142 #[o,m] w fun e w'=>e=qx (qh yH)/\w'=w:=by
 go_enter func142,ntmps142;go_wp2;go_ret;exact⟨zq,rfl⟩
end Sk
namespace Sk
open Bt Zr Ch Sq St Tn Bk Sm Ix2 Sd
open Front (ival)
variable {w:yC}
structure DV where
 a:ByteArray
 ip:Option yF
 n:Nat
 ic:Nat
 sh:Cache.Sh
 sa:Option yF
 sk:Nat
 rp:Option yF
 m:Nat
 rc:Nat
 dec:Nat
def DV.cl (d:DV):Array yD:= #[qY d.a,qZ d.ip d.n d.ic,qX qm d.sh.room,qX qm d.sh.clock,qZ d.sa (kN d.sh.held) d.sk,qZ d.rp d.m d.rc,qX qm (d.dec:Int)]
def DV.v (d:DV):yD:= .agg d.cl
abbrev TDk:yE:=39
theorem hkeep {w':yC} {M:Nat} {o:Obj} (h:w.heap[M]? =yA o) (a:yM w w w'):w'.heap[M]? =yA o:=(a.block M (zAd h)).trans h
theorem qH7 {B:Nat} {a b c d e f g:yD} {t:yE} (h:w.heap[B]? =yA (qp #[a,b,c,d,e,f,g] t)):w.cell? ⟨B,0,yB⟩=yA a/\w.cell? ⟨B,1,yB⟩=yA b/\w.cell? ⟨B,2,yB⟩=yA c/\w.cell? ⟨B,3,yB⟩=yA d/\w.cell? ⟨B,4,yB⟩=yA e/\w.cell? ⟨B,5,yB⟩=yA f/\w.cell? ⟨B,6,yB⟩=yA g:=
 ⟨by simp[yQ,h],by simp[yQ,h],by simp[yQ,h],by simp[yQ,h],by simp[yQ,h],by simp[yQ,h],by simp[yQ,h]⟩
theorem qNe (d:DV) (w:yC):yG yK 250 #[d.v,.agg (LRr.cl free).toArray] w fun e w'=>e=qx (qh yH)/\yM w w w':=by
 obtain⟨a,h,n,g,⟨f,b,c⟩,j,k,rp,m,i,dec⟩:=d;unfold DV.v DV.cl;simp only[show(LRr.cl free).toArray= #[qX qm 0,qX qm 0,qX qm 0,qX qm 0,qX qm 0,qY ⟨#[]⟩,qY ⟨#[]⟩]from rfl];go_enter func250,ntmps250;go_wp2;go_ret;exact⟨rfl,((yR _ _).alloc (qPq _) _).alloc (by rw[zA];omega) _⟩
structure Wk (lev:Nat) (ps:List T) (n X:Nat) (r:Rr) (j:Nat):Prop where
 s1:1<=r.st
 s3:r.st<=3
 m0:0<r.n
 m1:r.n<1048576
 ox:r.o<X
 fst:In ps n r.o j
 lst:In ps n (r.o+min r.n (X-r.o)-1) r.l
 b0:j<=r.b
 b1:r.b<=r.l
 got:r.got.size=qH8 ps r.b-r.o
 txt:r.txt.size=if r.st=3 then(ps.getD r.b []).length else 0
theorem qNa {b n X:Nat} {a:List T} (P:Ps b a n) (p:kN a.flatten=X) {r:Rr} {j:Nat} (h:Wk b a n X r j) (k:Nat) (q:j<=k) (d:k<r.b):
  paT r.o r.n (qH8 a k) (kN (a.getD k []))-paF r.o (qH8 a k)+(qH8 a k-r.o)=qH8 a (k+1)-r.o/\paF r.o (qH8 a k)<=paT r.o r.n (qH8 a k) (kN (a.getD k [])):=by
 have s:=P.len;have c:=h.b1;have e:=h.lst.lt;have f:=qI2 a k za;have g:=qIq a (j:=k+1) (k:=r.l) za za;have i:=h.lst.lo;have l:=h.fst.hi;have m:=qIq a (j:=j+1) (k:=k+1) za za;have o:=h.m0;unfold paT paF;omega
theorem qNd (ae n X:Nat) (f:List T) (P:Ps ae f n) (hX:kN f.flatten=X) (d:DV) (hn:d.n=n) (af:n<=d.ic) (r:Rr) (j:Nat) (h:Wk ae f n X r j) (w:yC) (hi:xP LEn w d.ip (ents ae f n)):
  yG yK 250 #[d.v,.agg (LRr.cl r).toArray] w fun e w'=>e=qx (qh yH)/\yM w w w':=by
 obtain⟨HK,HP,HX⟩:=yV h P hX;have am:X<=10000:=by rw[<-hX];exact P.all
 have ao:=P.many;obtain⟨a,ip,n',ic,⟨I,x,H⟩,sa,sk,rp,m,rc,dec⟩:=d;obtain⟨st,o,q,b,l,ad,z⟩:=r;simp only at hn hi af;subst hn;have s1:1<=st:=h.s1;have s3:st<=3:=h.s3;have m0:0<q:=h.m0;have m1:q<1048576:=h.m1;have ox:o<X:=h.ox;have b0:j<=b:=h.b0;have b1:b<=l:=h.b1;have hl:l<n':=h.lst.lt;have a5:j<n':=h.fst.lt;obtain⟨t,rfl⟩:∃t,b=j+t:=⟨b-j,za⟩;obtain⟨L,rfl⟩:∃c,ic=j+c:=⟨ic-j,za⟩;obtain⟨g,p,rfl,_⟩:=rdE hi j _ (qIx ae f n' j a5);obtain⟨E,hE⟩:=zB w.heap.size;obtain⟨W,hW⟩:=zB ((w.alloc (qp #[qY a,qZ (yA ⟨g,p,yB⟩) n' (j+L),qX qm I,qX qm x,qZ sa (kN H) sk,qZ rp m rc,dec] TDk)).alloc (qp #[st,o,q,qX qm ((j:Int)+(t:Int)),l,qY ad,qY z] TRr));have hb:yM w w W:=by rw[<-hW];exact((yR _ _).alloc (qPq _) _).alloc (by rw[zA];omega) _
 have hz:W.heap.size=E+2:=by rw[<-hW,zA,zA,hE]
 have D0:=yT (W.heap[E]? =yA (qp #[qY a,qZ (yA ⟨g,p,yB⟩) n' (j+L),qX qm I,qX qm x,qZ sa (kN H) sk,qZ rp m rc,dec] TDk)) (by rw[<-hW,<-hE];exact(Lib.alloc_old _ _ _ (by rw[zA];omega)).trans (zAh w _));have R0:=yT (W.heap[E+1]? =yA (qp #[st,o,q,qX qm ((j:Int)+(t:Int)),l,qY ad,qY z] TRr)) (by rw[<-hW,<-hE,<-zA w (qp #[qY a,qZ (yA ⟨g,p,yB⟩) n' (j+L),qX qm I,qX qm x,qZ sa (kN H) sk,qZ rp m rc,dec] TDk)];exact zAh _ _);obtain⟨HC,HI,HB,HW,HE,HZ⟩:=yZ (qKw ae n' f P (yA ⟨g,p,yB⟩) (j+L) o q j l W (hi.below hb rfl) af hX (qy ⟨m0,ox,j,l,rfl,rfl,h.fst,h.lst⟩) za za) (hi.below hb rfl) hb hW hE hz;obtain⟨y0,y1,y2,y3,y4,y5,y6⟩:=qH7 D0.out;obtain⟨x0,x1,x2,x3,x4,x5,x6⟩:=qH7 R0.out;have ai:((st:Int)==0)=yI:=zq
 unfold DV.v DV.cl;rw[show(LRr.cl (⟨st,o,q,j+t,l,ad,z⟩:Rr)).toArray= #[qX qm (st:Int),qX qm (o:Int),qX qm (q:Int),qX qm ((j:Int)+(t:Int)),qX qm (l:Int),qY ad,qY z]from rfl];clear P h hX hi hb hW hE hz;go_enter func250,ntmps250;go_wp2_with fail;rw[HE.out,show(w.alloc (qp #[qY a,qZ (yA ⟨g,p,yB⟩) n' (j+L),qX qm I,qX qm x,qZ sa (kN H) sk,qZ rp m rc,dec] TDk)).alloc (qp #[st,o,q,qX qm ((j:Int)+(t:Int)),l,qY ad,qY z] TRr)=W from HW.out];clear y0 y1 y2 y3 y4 y5 y6 x0 x1 x2 x3 x4 x5 x6;(with_reducible refine HC.out.mono ?_);rintro e w1 ⟨rfl,N⟩;obtain⟨D1,R1,I1,B1⟩:=yX (hkeep D0.out N) (hkeep R0.out N) (HI.out.below N rfl) (HB.out.trans (N.mono HB.out.size));obtain⟨y0,y1,y2,y3,y4,y5,y6⟩:=qH7 D1.out;obtain⟨x0,x1,x2,x3,x4,x5,x6⟩:=qH7 R1.out;have a1:=qKm o q za m1 w1;have a9:=zH a1;clear HC N a1;go_wp2_with fail;(with_reducible refine a9.out.mono ?_);rintro e w2 ⟨rfl,rfl⟩;have ab:((l:Int)!=(l:Int))=yI:=by simp
 go_wp2;clear y0 y1 y2 y3 y4 y5 y6 x0 x1 x2 x3 x4 x5 x6 ab;rw[show j+t-j=t from za];go_loopw [7,72] (fun gv iv wr=>∃i G:Nat,i<=t/\G<=10000/\iv=qX qm (i:Int)/\gv=qX qm (G:Int)/\yL (qH8 f (j+i)-o=G)/\yL (yM w2 w2 wr)) (fun _ iv _=>t-(intOf iv).toNat)
 case atStart=>exact⟨0,0,qQl _,za,rfl,rfl,zH (by have:=HK.out.fst.lo;simp only at this;rw[qRi];omega),zH (yR _ _)⟩
 case round=>
  obtain⟨i,G,hi,ak,rfl,rfl,hG,u⟩:=hrel;obtain⟨x0,x1,x2,x3,x4,x5,x6⟩:=qH7 (hkeep R1.out u.out);obtain⟨y0,y1,y2,y3,y4,y5,y6⟩:=qH7 (hkeep D1.out u.out);have BW:=zH (B1.out.trans (u.out.mono B1.out.size));by_cases an:i<t
  .obtain⟨g',O,s,e0,e1,e2,e3,e4⟩:=rdE (I1.out.below u.out rfl) (j+i) _ (qIx ae f n' (j+i) za);obtain⟨rfl,rfl⟩:g=g'/\p=O:=by injection s with s;injection s with h1 h2;exact⟨h1,h2⟩
   rw[show p+(j+i)*5=p+j*5+i*5 from za]at e0 e1 e2 e3 e4;obtain⟨y,V⟩:=zB (qIi ae f (j+i));obtain⟨q1,q2⟩:=HP.out.one (k:=j+i) za;obtain⟨B,Y⟩:=qNa HP.out HX.out HK.out (j+i) za (by show j+i<j+t;omega);simp only at B Y;have K:y.f=qH8 f (j+i):=by rw[<-V];rfl
   have a0:y.l=kN (f.getD (j+i) []):=by rw[<-V];rfl
   rw[<-K,<-a0]at B Y;rw[K,hG.out]at B;rw[<-K,<-a0]at q1;obtain⟨pf,R⟩:=zB (paF o y.f);obtain⟨pt,Z⟩:=zB (paT o q y.f y.l);have M:=zH (fun W'=>qK6 y o q za za za za W');rw[<-K,R,Z]at B;rw[R,Z]at M Y;have a8:=zH B;have a7:pt-pf+G<=10000:=by rw[B,show qH8 f (j+i+1)=y.f+y.l from q1];rw[show y.f+y.l=qH8 f (j+i+1)from q1.symm];omega
   have ah:pt<=10000+pf:=za
   have ag:pf<=100000:=by rw[<-R];unfold paF;omega
   rw[V]at e0 e1 e2 e3 e4;unfold zAx at e4;obtain⟨i',r',f',l',u'⟩:=y;simp only at e0 e1 e2 e3 e4 M;unfold enV zAx at M;have z1:=fun ob=>qIt (o:=ob) x1;have z2:=fun ob=>qIt (o:=ob) x2;have BR:=zH u.out;clear V hG u K a0 q1 R Z B s x0 x1 x2 x3 x4 x5 x6 y0 y1 y2 y3 y4 y5 y6;go_wp2_with fail;(with_reducible refine(M.out _).mono ?_);rintro e w4 ⟨rfl,a3⟩;have B4:=yT (yM w2 w2 w4) ((BR.out.alloc BR.out.size _).trans (a3.mono (by rw[zA];have:=BR.out.size;omega)));have a2:(G:Int)+((pt:Int)-(pf:Int))=((pt-pf+G:Nat):Int):=za
   have a6:=zH a2;clear a3 z1 z2 e0 e1 e2 e3 e4 M;clear a2;go_wp2;go_roundw
   case rel=>exact⟨i+1,pt-pf+G,za,a7,by go_num,by rw[a6.out],zH a8.out.symm,B4⟩
   case measure=>exact z8
  .obtain rfl:i=t:=za
   have S:ad.size=G:=by have:=HK.out.got;simp only at this;rw[this];exact hG.out
   have F:z.size=if st=3 then(f.getD (j+i) []).length else 0:=HK.out.txt
   by_cases h3:st=3
   .rw[qPr h3]at F;obtain⟨g',O,s,e0,e1,e2,e3,e4⟩:=rdE (I1.out.below u.out rfl) (j+i) _ (qIx ae f n' (j+i) za);obtain⟨rfl,rfl⟩:g=g'/\p=O:=by injection s with s;injection s with h1 h2;exact⟨h1,h2⟩
    have aj:wr.cell? ⟨g,p+(j+i)*5+3,yB⟩=yA (qX qm (z.size:Int)):=by rw[F];exact e3
    have a4:((st:Int)==3)=yH:=zq
    have ac:((ad.size:Int)==(G:Int))=yH:=by rw[S];simp
    have aa:((z.size:Int)==(z.size:Int))=yH:=by simp
    clear e0 e1 e2 e3 e4 s F S hG u;go_wp2;go_ret;exact⟨rfl,BW.out⟩
   .rw[qPt h3]at F;have a4:((st:Int)==3)=yI:=zq
    have ac:((ad.size:Int)==(G:Int))=yH:=by rw[S];simp
    have aa:((z.size:Int)==0)=yH:=by rw[F];rfl
    clear F S hG u;go_wp2;go_ret;exact⟨rfl,BW.out⟩
end Sk
end Go.Proofs.YtppnakkaljbmbaaGreatDoor
section
namespace Go.Proofs
open Go.Proofs.YtppnakkaljbmbaaGreatDoor
open Go.Shelf
def Tryz.qK1:Go.Shelf.Ren:=⟨fun|6=>204|14=>261|15=>180|20=>291|21=>292|22=>293|23=>294|24=>295|25=>296|26=>297|27=>298|28=>240|29=>241|46=>323|47=>277|48=>278|49=>324|50=>325|57=>348|n=>n,fun|0=>0|3=>3|4=>4|5=>5|9=>9|22=>34|24=>212|25=>280|39=>178|45=>342|46=>343|50=>347|53=>65|55=>64|66=>385|70=>389|76=>433|77=>246|n=>n,fun|n=>n⟩
theorem Tryz.qK2:Go.Proofs.SlLaysF0.n6 yK qK1:={
 mixed:=zf
 f6:=⟨f204.name,qW,func204.trans (qPs yA zf)⟩
 f14:=⟨f261.name,qW,func261.trans (qPs yA zf)⟩
 f15:=func180.trans (qPs yA zf)
 f20:=⟨f291.name,qW,func291.trans (qPs yA zf)⟩
 f21:=⟨f292.name,qW,func292.trans (qPs yA zf)⟩
 f22:=⟨f293.name,qW,func293.trans (qPs yA zf)⟩
 f23:=⟨f294.name,qW,func294.trans (qPs yA zf)⟩
 f24:=⟨f295.name,qW,func295.trans (qPs yA zf)⟩
 f25:=⟨f296.name,qW,func296.trans (qPs yA zf)⟩
 f26:=⟨f297.name,qW,func297.trans (qPs yA zf)⟩
 f27:=⟨f298.name,qW,func298.trans (qPs yA zf)⟩
 f28:=func240.trans (qPs yA zf)
 f29:=func241.trans (qPs yA zf)
 f46:=⟨f323.name,qW,func323.trans (qPs yA zf)⟩
 f47:=func277.trans (qPs yA zf)
 f48:=func278.trans (qPs yA zf)
 f49:=⟨f324.name,qW,func324.trans (qPs yA zf)⟩
 f50:=⟨f325.name,qW,func325.trans (qPs yA zf)⟩
 f57:=⟨f348.name,qW,func348.trans (qPs yA zf)⟩
 t0:=underlying0
 a0:=isAgg0
 z0:=sizeOf0
 v0:=zeroValue0
 t3:=underlying3
 a3:=isAgg3
 z3:=sizeOf3
 v3:=zeroValue3
 t4:=underlying4
 a4:=isAgg4
 z4:=sizeOf4
 v4:=zeroValue4
 t5:=underlying5
 a5:=isAgg5
 z5:=sizeOf5
 v5:=zeroValue5
 t9:=underlying9
 a9:=isAgg9
 z9:=sizeOf9
 v9:=zeroValue9
 t22:=underlying34
 a22:=isAgg34
 z22:=sizeOf34
 v22:=zeroValue34
 t25:=underlying280
 a25:=isAgg280
 z25:=sizeOf280
 v25:=zeroValue280
 t39:=underlying178
 a39:=isAgg178
 z39:=sizeOf178
 v39:=zeroValue178
 t45:=underlying342
 a45:=isAgg342
 z45:=sizeOf342
 v45:=zeroValue342
 t46:=underlying343
 a46:=isAgg343
 z46:=sizeOf343
 v46:=zeroValue343
 t50:=underlying347
 a50:=isAgg347
 z50:=sizeOf347
 v50:=zeroValue347
 t53:=underlying65
 a53:=isAgg65
 z53:=sizeOf65
 v53:=zeroValue65
 t55:=underlying64
 a55:=isAgg64
 z55:=sizeOf64
 v55:=zeroValue64
 t66:=underlying385
 a66:=isAgg385
 z66:=sizeOf385
 v66:=zeroValue385
 t70:=underlying389
 a70:=isAgg389
 z70:=sizeOf389
 v70:=zeroValue389
 t76:=underlying433
 a76:=isAgg433
 z76:=sizeOf433
 v76:=zeroValue433
 t77:=underlying246
 a77:=isAgg246
 z77:=sizeOf246
 v77:=zeroValue246}
def Tryz.qMa:Go.Shelf.Ren:=⟨fun|5=>168|7=>206|n=>n,fun|3=>3|4=>4|22=>3|n=>n,fun|n=>n⟩
theorem Tryz.qOq:Go.Proofs.SlLaysC2.n5 yK qMa:={
 mixed:=zf
 f5:=⟨f168.name,qW,func168.trans (qPs yA zf)⟩
 f7:=⟨f206.name,qW,func206.trans (qPs yA zf)⟩
 t3:=underlying3
 a3:=isAgg3
 z3:=sizeOf3
 v3:=zeroValue3
 t4:=underlying4
 a4:=isAgg4
 z4:=sizeOf4
 v4:=zeroValue4
 t22:=underlying3
 a22:=isAgg3
 z22:=sizeOf3
 v22:=zeroValue3}
end Go.Proofs
end
namespace Go.Proofs.YtppnakkaljbmbaaGreatDoor
namespace Cache
open Go.Shelf Go.Lib Go.Sort
theorem zKt (x y:Int) (w:yC):yG yK 168 #[qX qm x,qX qm y] w fun e w'=>e=qx (qX qm (Lib.compareInt x y))/\w'=w:=AnyG.cmp_Compare_int qOq x y w
structure Key (p:Nat) (key:Hd->Int):Prop where
 enters:∀args w,(callFunc p args).run yK w= .ok (.enter p args) w
 calls:∀x w,yG yK p #[hval x] w fun e w'=>e=qx (qX qm (key x))/\w'=w.alloc (qIk x)
theorem qOm:Key 164 (fun x=>wrap64 (-x.st)):=⟨enters_of func164 zf rfl,qMb⟩
theorem qNh:Key 346 (fun x=>x.blk):=⟨enters_of func346 zf rfl,qLf⟩
theorem qOc (p:Nat) (f:Hd->Int) (K:Key p f) (Bs:Nat) (x y:Hd) (w:yC) (j:w.cell? ⟨Bs,0,yB⟩=yA (.func (.func p) #[] #[])):
  yG yK 167 #[hval x,hval y,qc (yA ⟨Bs,0,yB⟩)] w fun e w'=>e=qx (qX qm (Lib.compareInt (f x) (f y)))/\∃q i,w'=grow (w.drewN q) i:=by
 have eg:=K.enters;have d:Bs<w.heap.size:=qQk j;obtain⟨W,g⟩:=zB ((w.alloc (qIk x)).alloc (qIk y));have u:qIo W w.heap.size x:=by rw[<-g];exact(qIo.new w x).alloc _
 have B:qIo W (w.heap.size+1) y:=by rw[<-g];have h:=qIo.new (w.alloc (qIk x)) y;rw[qH6]at h;exact h
 have c:W.cell? ⟨Bs,0,yB⟩=yA (.func (.func p) #[] #[]):=by
  rw[<-g,(((yR w.heap.size w).alloc (qPq _) (qIk x)).alloc (by rw[qH6];omega) (qIk y)).cell (p:=⟨Bs,0,yB⟩) d];exact j
 have b:W.heap.size=w.heap.size+2:=by rw[<-g,qH6,qH6]
 have c0:∀n os,(grow (W.drewN n) os).cell? ⟨Bs,0,yB⟩=yA (.func (.func p) #[] #[]):=cell_grown (by rw[b];show Bs<_;omega) c;obtain⟨H,I,L⟩:=u.at_;obtain⟨M,N,y2⟩:=B.at_;have V:=cell_grown (w:=W) (a:=⟨w,0,yB⟩) (by rw[b];show w.heap.size<_;omega) H;have X:=cell_grown (w:=W) (a:=⟨w.heap.size,1,yB⟩) (by rw[b];show w.heap.size<_;omega) I;have Y:=cell_grown (w:=W) (a:=⟨w.heap.size,2,yB⟩) (by rw[b];show w.heap.size<_;omega) L;have Z:=cell_grown (w:=W) (a:=⟨w.heap.size+1,0,yB⟩) (by rw[b];show w.heap.size+1<_;omega) M;have a0:=cell_grown (w:=W) (a:=⟨w.heap.size+1,1,yB⟩) (by rw[b];show w.heap.size+1<_;omega) N;have a1:=cell_grown (w:=W) (a:=⟨w.heap.size+1,2,yB⟩) (by rw[b];show w.heap.size+1<_;omega) y2;have m:∀(z:Hd) n os,yG yK p #[hval z] (grow (W.drewN n) os) fun e w'=>e=qx (qX qm (f z))/\∃q i,w'=grow ((grow (W.drewN n) os).drewN q) i:=fun z n os=>
  (K.calls z _).mono fun e w' ⟨k,l⟩=>⟨k,0,#[qIk z],by rw[l,alloc_eq_grow];rfl⟩
 have F:=m x;have G:=m y;have o:∀n os,yG yK 168 #[qX qm (f x),qX qm (f y)] (grow (W.drewN n) os) fun e w'=>e=qx (qX qm (Lib.compareInt (f x) (f y)))/\∃q i,w'=grow ((grow (W.drewN n) os).drewN q) i:=fun n os=>
  (zKt _ _ _).mono fun e w' ⟨k,l⟩=>⟨k,0,#[],by rw[l,grow_empty];rfl⟩
 obtain⟨r,t⟩:=zB (Lib.compareInt (f x) (f y));rw[t]at o⊢;obtain⟨s,P,R,O⟩:=yX g F G o;clear g F G o m t H I L M N y2 u B c j K b;unfold hval at*;go_enter func167,ntmps167;go_wp2_with fail;rw[show(w.alloc (qp #[qX qm x.blk,qX qm x.st,qY x.txt] TH)).alloc (qp #[qX qm y.blk,qX qm y.st,qY y.txt] TH)=W from s.out];have S:prog.follows .mixedOrders=yH:=zf
 go_quiet_grown (first|(go_at_call 168;refine Calls.grown_of (O.out _ _))|(go_at_fn p;first|(refine Calls.grown_of (P.out _ _))|(refine Calls.grown_of (R.out _ _))));go_wp2;go_ret;refine⟨rfl,nq,#[qIk x,qIk y]++osq,?_⟩;rw[<-s.out,alloc_eq_grow,alloc_eq_grow,grow_grow];show grow (grow (w.drewN nq) _) osq=_;rw[grow_grow];rfl
end Cache
namespace Cache
open Go.Shelf Go.Lib Go.Sort
variable {w:yC} {g n B c:Nat} {os:Array Obj}
theorem qLa (l:List Hd):flatK hcells 3 l.toArray=(flat l).toArray:=by
 apply Array.ext
 .rw[size_flatK];simp[zBg]
 .intro i d h;have hi:i<kN (flat l):=by simpa using h
  obtain⟨x,m,k⟩:=zT2 l i (flat l)[i] (qPu hi);have j:i<l.toArray.size*3:=by rw[size_flatK]at d;exact d
  have e:=get_flatK hcells 3 l.toArray i j;rw[qS9 _ i d]at e;rw[e];have b:l.toArray[i/3]! =x:=by
   obtain⟨a,f⟩:=qSj.1 m;rw[getElem!_pos _ _ (by simpa using a)];simpa using f
  rw[b];obtain⟨a,f⟩:=qSj.1 k;rw[qS9 (hcells x) (i%3) a,f];simp
theorem qL {a:Array yD} {e:yE} {fr:Nat×Nat} (d:Array Hd) (b:w.heap[g]? =yA (qp a e fr)):
  (sortWorldK hcells 3 w g 0 n d os).heap[g]? =yA (qp (Sort.putCells id 0 (flatK hcells 3 d) a) e fr):=by
 have f:g<w.heap.size:=(qQ7.1 b).1;unfold sortWorldK putRowK;rw[Sort.heap_grow_old _ _ (by simpa using f)];simp[Sort.putRow,Sort.mapBlock,Sort.ahead,qQt,b,Sort.onCells]
theorem qJi (d:Array Hd):w.grownBy (sortWorldK hcells 3 w g 0 n d os) (yA g):=by
 unfold sortWorldK putRowK;refine⟨rfl,rfl,rfl,zm,fun k a hne=> ?_⟩;rw[Sort.heap_grow_old _ _ (by simpa using a)];have:g≠k:=fun e=>hne (by rw[e]);simp[Sort.putRow,Sort.mapBlock,Sort.ahead,qQt,this]
theorem qM4 (b:Array yD) (a:List yD) (h:kN a<=b.size):(Sort.putCells id 0 a.toArray b).toList.take (kN a)=a:=by
 apply qRt;intro j;by_cases d:j<kN a
 .rw[qUe d,qS4];simp[Sort.putCells,d,show j<b.size by omega]
 .rw[List.getElem?_take_eq_none za,qQq za]
theorem qI.holds {l:List Hd} (h:qI w B (yA ⟨g,0,yB⟩) n c l):HoldsK hcells 3 w g 0 l.toArray:=by
 unfold HoldsK;rw[qLa];intro j b;have a:j<kN (flat l):=by simpa using b
 have e:=h.len;have d:=zBg l;refine⟨?_,World.ownsRow.frozenAt h _⟩;rw[qQd,qTn h j za,qPu a,qS9 (flat l).toArray j b];simp
theorem qI.sorted {m:Nat} {l l':List Hd} (h:qI w B (yA ⟨g,0,yB⟩) n c l) (k:kN l'=n):qI (sortWorldK hcells 3 w g 0 m l'.toArray os) B (yA ⟨g,0,yB⟩) n c l':=by
 have d:=zBg l';obtain⟨q,i⟩:=h;refine⟨za,?_⟩;rcases i with⟨i,_⟩|⟨g',p,a,hv,b,j,e,f,o,r⟩
 .cases i
 .injection hv with ha hn hc
  injection ha with ha
  injection ha with ha
  subst ha hc;refine qy ⟨g,c,_,rfl,b,qL _ j,e,f,by simp[Sort.putCells,o],?_⟩;rw[qLa,<-k,<-d];exact qM4 a _ za
theorem qMy (a b:Int):(Lib.compareInt a b<0)↔a<b:=by
 unfold Lib.compareInt;split
 .rename_i h;constructor<;>intro _<;>omega
 .split
  .rename_i h1 h2;constructor<;>intro _<;>omega
  .rename_i h1 h2;constructor<;>intro _<;>omega
theorem swo (a:Hd->Int):SWO (ltOf fun x y=>Lib.compareInt (a x) (a y)):=by
 have e:∀x y,(ltOf fun x y=>Lib.compareInt (a x) (a y)) x y=yJ (a x<a y):=fun x y=>by
  show yJ (Lib.compareInt (a x) (a y)<0)=_;rw[decide_eq_decide,qMy]
 exact⟨fun x=>by rw[e];simp,fun x y z b d=>by rw[e,qRm]at*;omega,fun x y z b d=>by rw[e,decide_eq_false_iff_not]at*;omega⟩
theorem zZc (p:Nat) (q:Hd->Int) (K:Key p q) (Bs B:Nat) (a:Option yF) (n c:Nat) (l:List Hd) (w:yC) (hm:n<=100000) (Y:B<=w.heap.size) (a0:Bs<B) (z:qI w B a n c l) (Z:w.cell? ⟨Bs,0,yB⟩=yA (.func (.func p) #[] #[])):
  yG yK 204 #[qZ a n c,.func (.func 167) #[] #[qc (yA ⟨Bs,0,yB⟩)]] w fun e w'=>
   e=qx (qg #[])/\∃l',l'.Perm l/\(l'.Pairwise fun x y=>q x<=q y)/\qI w' B a n c l'/\yM B w w':=by
 have O:=z.len;by_cases X:n=0
 .subst X;have F:l=[]:=qQ0 O;subst F;exact(AnyF.slices_SortFunc_none qK2 a c _ w).mono fun e w' ⟨M,R⟩=>⟨M,[],List.Perm.nil,List.Pairwise.nil,by rw[R];exact z,by rw[R];exact yR _ _⟩
 .obtain⟨g,rfl,a1,L,a3⟩:=z.at_ za;have r:CmpLays yK 167 #[qc (yA ⟨Bs,0,yB⟩)] hcells 3 (fun x y=>Lib.compareInt (q x) (q y)) g 0 l.toArray.size w:=by
   intro m os dk a2 x y;have I:(sortWorldK hcells 3 w g 0 m dk os).cell? ⟨Bs,0,yB⟩=yA (.func (.func p) #[] #[]):=by
    rw[qRg (w:=w) ((qJi dk).block Bs za (fun e=>by injection e with e;omega))];exact Z
   exact qOc p q K Bs x y _ I
  have h:=AnyQ.slices_SortFunc qK2 3 isAgg212 sizeOf212 hcells (fun _=>rfl) (fun x v hv=>by simp at hv;rcases hv with rfl|rfl|rfl<;>rfl) (fun x y=>Lib.compareInt (q x) (q y)) (swo q) 167 #[qc (yA ⟨Bs,0,yB⟩)] g 0 c l.toArray w (enters_of func167 zf rfl) r z.holds L zq;have b:l.toArray.size=n:=by simp[O]
  rw[b]at h;refine h.mono ?_;rintro e w' ⟨M,d',m,os,d,f,rfl⟩;obtain⟨s,_,o⟩:=d;have hd:d'.size=n:=by rw[s,b]
  have hp:d'.toList.Perm l:=by
   have V:d'.extract 0 n=d':=by rw[<-hd];simp
   have W:l.toArray.extract 0 n=l.toArray:=by rw[<-b];simp
   rw[V,W]at o;exact o
  refine⟨M,d'.toList,hp,?_,?_,(yR _ _).grown (qJi d') Y (fun k N=>by injection N with N;omega)⟩
  .rw[qSf];intro i j hi hj S;have u:i<d'.size:=by simpa using hi
   have G:j<d'.size:=by simpa using hj
   have P:=f i j za S za;rw[qS9 d' i u,qS9 d' j G]at P;have H:¬Lib.compareInt (q d'[j]) (q d'[i])<0:=by simpa [ltOf]using P
   rw[qMy]at H;have t:q d'[i]<=q d'[j]:=za
   simpa using t
  .have ht:=z.sorted (m:=m) (os:=os) (l':=d'.toList) (by simpa using hd);simpa using ht
end Cache
namespace Cache
open Go.Shelf
theorem qIw {fn:Func} {p:Tmp} {ty:yE} (h:fn.results= #[.cell p ty]) (tmps:Array yD) (P:Program) (w:yC) (a:yF) (v:yD) (d:tmps.getD p yN=qc (yA a)) (c:(loadVar ty a).run P w= .ok v w):
  (results fn tmps).run P w= .ok v w:=by
 have b:tmps[p]?.getD yN=qc (yA a):=by simpa using d
 simp[results,h,b,asAddr,c]
theorem qLr (w:yC) (r:Nat) (x:yD) (a:w.cell? ⟨r,0,yB⟩=yA x):(loadVar TSo ⟨r,0,yB⟩).run yK w= .ok (.agg #[x]) w:=by
 simp[loadVar,go_sem,a]
theorem qIm (w:yC) (r:Nat) (x y z:yD) (a:w.cell? ⟨r,0,yB⟩=yA x) (b:w.cell? ⟨r,1,yB⟩=yA y) (c:w.cell? ⟨r,2,yB⟩=yA z):(loadVar TS ⟨r,0,yB⟩).run yK w= .ok (.agg #[x,y,z]) w:=by
 simp[loadVar,go_sem,a,b,c]
theorem qJz (w:yC) (p:Nat):(store ⟨w,0,yB⟩ (.func (.func p) #[] #[])).run yK (w.alloc (qp #[qj] TSo))= .ok () ((w.alloc (qp #[qj] TSo)).setCell ⟨w,0,yB⟩ (.func (.func p) #[] #[])):=by
 rw[run_store _ _ _ _ _ rfl];simp
def qJ8 (p:Nat):yD:= .agg #[.func (.func p) #[] #[]]
theorem qMz (w:yC):yG yK 118 #[] w fun e w'=>e=qx (qJ8 164)/\yM w w w':=by
 have a:=qJz w 164;go_enter func118,ntmps118;go_wp2;refine qP5 (v:=qJ8 164) ?_ rfl ?_
 .exact qIw rfl _ _ _ ⟨w,0,yB⟩ _ rfl (qLr _ _ _ zm)
 .exact⟨rfl,(yR _ _).alloc (qPq _) _⟩
theorem qLn (w:yC):yG yK 321 #[] w fun e w'=>e=qx (qJ8 346)/\yM w w w':=by
 have a:=qJz w 346;go_enter func321,ntmps321;go_wp2;refine qP5 (v:=qJ8 346) ?_ rfl ?_
 .exact qIw rfl _ _ _ ⟨w,0,yB⟩ _ rfl (qLr _ _ _ zm)
 .exact⟨rfl,(yR _ _).alloc (qPq _) _⟩
theorem qKj (p:Nat) (d:Hd->Int) (K:Key p d) (Bs:Nat) (g:Nat) (lb:Array yD) (S:List Hd->Prop) (N:Nat) (P:N<=1000) (o:∀l,S l->kN l<=1000) (w:yC) (k:Bs<w.heap.size) (q:w.cell? ⟨Bs,0,yB⟩=yA (.func (.func p) #[] #[])) (m:∀args w,(callFunc g args).run yK w= .ok (.enter g args) w)
  (j:SeqStopsK Fence.wide 2 yK g lb (fun x:Hd=> #[hval x]) (KpW w.heap.size) S (fun _=>True) N w):
  yG yK 165 #[.func (.func g) #[] lb,.func (.func 167) #[] #[qc (yA ⟨Bs,0,yB⟩)]] w fun e w'=>
   ∃a n c l l',e=qx (qZ a n c)/\S l/\l'.Perm l/\(l'.Pairwise fun x y=>d x<=d y)/\qI w' w.heap.size a n c l'/\yM w w w':=by
 obtain⟨H,G,I⟩:=yV (zS5 g lb S N P w m j) q o;clear m j q o;go_enter func165,ntmps165;go_wp2_with fail;refine H.out.mono ?_;rintro e V ⟨a,n,c,l,rfl,h,i,f⟩;have R:n<=100000:=by have:=I.out l h;have:=i.len;omega
 have r:=zZc p d K Bs w.heap.size a n c l V R f.size k i (by rw[f.cell (p:=⟨Bs,0,yB⟩) k];exact G.out);obtain⟨b,B,F⟩:=yV r h f;clear h i f r;go_wp2_with fail;refine b.out.mono ?_;rintro e w2 ⟨rfl,l',s,t,u,z⟩;obtain⟨P1,L,M,O⟩:=yX s t u z;clear s t u z;go_wp2;go_ret;exact⟨a,n,c,l,l',rfl,B.out,P1.out,L.out,M.out,F.out.trans O.out⟩
theorem qJl (p:Nat) (t:Hd->Int) (K:Key p t) (a:Option yF) (m q:Nat) (l:List Hd) (z:kN l=m) (R:m<=1000) (w:yC) (u:qIg w a l):
  yG yK 119 #[qJ8 p,qZ a m q] w fun e w'=>
   ∃a' n c l',e=qx (qZ a' n c)/\l'.Perm l/\(l'.Pairwise fun x y=>t x<=t y)/\qI w' w.heap.size a' n c l'/\yM w w w':=by
 obtain⟨W,s⟩:=zB ((w.alloc (qp #[.func (.func p) #[] #[]] TSo)).alloc (qp #[qZ a m q] 34));have k:W.heap.size=w.heap.size+2:=by rw[<-s,qH6,qH6]
 have g:yM w w W:=by rw[<-s];exact((yR _ w).alloc (qPq _) _).alloc (by rw[qH6];omega) _
 have j:W.cell? ⟨w,0,yB⟩=yA (.func (.func p) #[] #[]):=by
  rw[<-s,((yR (w.heap.size+1) (w.alloc (qp #[.func (.func p) #[] #[]] TSo))).alloc (by rw[qH6];omega) (qp #[qZ a m q] 34)).cell (p:=⟨w,0,yB⟩) zm];simp
 have r:W.cell? ⟨w.heap.size+1,0,yB⟩=yA (qZ a m q):=by rw[<-s];simp
 have i:∀b off,a=yA ⟨b,off,yB⟩->0<m->b<W.heap.size:=by
  intro b off P X;obtain⟨b',S,d,V,_⟩:=u.at_ 0 za;rw[P]at d;injection d with d
  injection d with d _
  omega
 have f:=qLw 2 W.heap.size (w.heap.size+1) za a m q l z za W (u.below g rfl) (qPq _) i za r;obtain⟨H,L,HB,o⟩:=yX (qKj p t K w.heap.size _ _ _ m R (fun l' h=>by rw[h];omega) W za j (enters_of func205 zf rfl) f) s g k;clear f i j r g k s u z K;unfold qJ8;go_enter func119,ntmps119;go_wp2_with fail;refine(qLx _ _ _ _).mono ?_;rintro e Y ⟨rfl,rfl⟩;go_wp2_with fail;rw[show(w.alloc (qp #[.func (.func p) #[] #[]] TSo)).alloc (qp #[qZ a m q] 34)=W from L.out];refine H.out.mono ?_;rintro e w2 ⟨a',n,c,l1,l',rfl,rfl,B,F,G,I⟩;obtain⟨P1,M,N,O⟩:=yX B F G I;clear B F G I;go_wp2;go_ret;exact⟨a',n,c,l',rfl,P1.out,M.out,N.out.base (by have:=o.out;omega),HB.out.trans (O.out.mono (by have:=o.out;omega))⟩
end Cache
namespace Cache
open Go.Shelf
abbrev TI:yE:=3
def qAp (x:Int):yD:=qX qm x
theorem qO5:Kit.One yK 23 TI 8:=⟨underlying23,qX qm 0,zf,rfl⟩
theorem qFf {l l':List Hd} {d:Int} (a:Good d l) (m:d<=qIf) (c:l'.Perm l) (n:l'.Pairwise fun x y=>wrap64 (-x.st)<=wrap64 (-y.st)):l'=ord l:=by
 refine qN5 a.2.2 c ?_;have k:l'.Pairwise fun x y=>x.st≠y.st:=(qUj (fun h=>qQ4 h) c).2 a.2.2;have f:∀x∈l',wrap64 (-x.st)= -x.st:=fun x o=>by
  have:=a.1 x (c.subset o);unfold qIf at m;unfold wrap64;omega
 refine qSf.2 fun i j hi b e=> ?_;have g:=qSf.1 n i j hi b e;have p:=qSf.1 k i j hi b e;rw[f _ (qP9 hi),f _ (qP9 b)]at g;omega
theorem zOm (c:Sh) (a:Option yF) (aa:Nat) (w:yC) (hm:kN c.held<=1000000) (hs:qIg w a c.held):
  yG yK 42 #[zC7 c a aa] w fun e w'=>∃a' n k,e=qx (qZ a' n k)/\yu w' w.heap.size TI a' n k ((order c).map qAp)/\yM w w w':=by
 obtain⟨W0,d⟩:=zB (w.alloc (qp #[qX qm c.room,qX qm c.clock,qZ a (kN c.held) aa] TS));have t:yM w w W0:=by rw[<-d];exact(yR _ _).alloc (qPq _) _
 have a0:W0.heap.size=w.heap.size+1:=by rw[<-d,qH6]
 have c0:W0.cell? ⟨w,0,yB⟩=yA (qX qm c.room):=by rw[<-d];simp
 have c1:W0.cell? ⟨w.heap.size,1,yB⟩=yA (qX qm c.clock):=by rw[<-d];simp
 have c2:W0.cell? ⟨w.heap.size,2,yB⟩=yA (qZ a (kN c.held) aa):=by rw[<-d];simp
 obtain⟨HR,HS,HW,X⟩:=yX (zGf c a aa W0 (by unfold maxLen;omega) (hs.below t rfl)) (hs.below t rfl) d t;clear hs d t;unfold zC7 at HR⊢;go_enter func42,ntmps42;go_wp2_with fail;rw[show w.alloc (qp #[qX qm c.room,qX qm c.clock,qZ a (kN c.held) aa] TS)=W0 from HW.out];refine HR.out.mono ?_;rintro e W ⟨rfl,l⟩;have V:w.heap.size<W.heap.size:=by have:=l.size;omega
 have d2:W.cell? ⟨w.heap.size,2,yB⟩=yA (qZ a (kN c.held) aa):=by rw[l.cell (p:=⟨w.heap.size,2,yB⟩) (by rw[a0];show w.heap.size<_;omega)];exact c2
 obtain⟨a7,N⟩:=yU (HS.out.below l rfl) (X.out.trans (l.mono za));clear l c0 c1 c2;by_cases hr:right c=yH
 .have K:=zH hr;have S:kN c.held<=64:=by have:=(zIu c).1 hr;unfold Right at this;omega
  rw[hr];clear hr;have I:∀w',yM W W w'->yG yK 118 #[] w' fun e w1=>e=qx (.agg #[.func (.func 164) #[] #[]])/\w1.cell? ⟨w.heap.size,2,yB⟩=yA (qZ a (kN c.held) aa)/\yL (yM W W w1):=fun w' z=>(qMz w').mono fun e w1 ⟨he,h1⟩=>
   ⟨he,by rw[h1.cell (p:=⟨w.heap.size,2,yB⟩) (by have:=z.size;show w.heap.size<_;omega),z.cell (p:=⟨w.heap.size,2,yB⟩) V];exact d2,zH (z.trans (h1.mono z.size))⟩
  have P:∀w',yM W W w'->yG yK 119 #[.agg #[.func (.func 164) #[] #[]],qZ a (kN c.held) aa] w' fun e w2=>∃a' n k l',e=qx (qZ a' n k)/\yL (l'.Perm c.held/\(l'.Pairwise fun x y=>wrap64 (-x.st)<=wrap64 (-y.st))/\qI w2 W.heap.size a' n k l')/\yL (yM W W w2):=fun w' z=>
   (qJl 164 _ qOm a (kN c.held) aa c.held rfl za w' (a7.out.below z rfl)).mono fun e w2 ⟨a',n,k,l',he,p1,p2,p3,p4⟩=>⟨a',n,k,l',he,zH ⟨p1,p2,p3.base z.size⟩,zH (z.trans (p4.mono z.size))⟩
  obtain⟨Z,a4,a2⟩:=yV I P ((yR W.heap.size W).drew);clear I P;go_wp2_with fail;go_region_with (first
   |(go_at_call 118;refine(Z.out _ a2.out).mono ?_;rintro e w1 ⟨rfl,d3,a9⟩)
   |(go_at_call 119;refine(a4.out _ a9.out).mono ?_;rintro e w2 ⟨a',n,k,l',rfl,m,O⟩))
  all_goals
   have g:kN l'=n:=m.out.2.2.len;have f:order c=l'.map Hd.blk:=by
    have hg:=(zIu c).1 K.out;unfold order;rw[qPr K.out,<-qFf hg.2.2.2.2.2 hg.2.2.2.1 m.out.1 m.out.2.1]
   have ab:n<=64:=by rw[<-g,m.out.1.length_eq];exact S
   obtain⟨o,B⟩:=yU f g;clear g f;obtain⟨N2,H⟩:=zB w2.heap.size;have ac:W.heap.size<=w2.heap.size:=O.out.size;have s:=zH H;clear H;simp only[qS0,qSt,qTb,Act.put,qPx,qPy,qPw];go_wp2;go_loopw [2,13] (fun v i wr=>∃(j:Nat) (p:Option yF) (q:Nat),j<=n/\i=qX qm j/\v=qZ p j q/\yL (yu wr N2 TI p j q ((l'.take j).map fun x=>qAp x.blk))/\yL (yM N2 w2 wr)) (fun _ i _=>n-(intOf i).toNat)
   case atStart=>exact⟨0,yB,0,za,rfl,rfl,zH (Kit.Own.start _ _ _),zH (yR _ _)⟩
   case round=>
    obtain⟨j,p,q,hj,rfl,rfl,r,z⟩:=hrel;by_cases a3:j<n
    .have G:j<kN l':=by rw[B.out];exact a3
     obtain⟨x,hx⟩:=zB (l'[j]);obtain⟨b,off,ha,ad,e0,e1,e2⟩:=(m.out.2.2.src.below z.out s.out.symm).at_ j G;rw[hx]at e0 e1 e2;subst ha;have a6:N2<=wr.heap.size:=by have h:=z.out.size;rw[s.out]at h;exact h
     obtain⟨p3,c3,w3,a8,L,M⟩:=Kit.Own.app (ty:=23) (w:=(wr.alloc (qIk x)).alloc (qp #[qX qm x.blk] TI)) qO5 ((r.out.alloc _).alloc _) (yA ⟨wr.heap.size+1,0,yB⟩) 1 1 [qAp x.blk] (by have h:=xM (wr.alloc (qIk x)) (qAp x.blk) TI;rw[qH6]at h;exact h) rfl (fun h=>by cases h) (by intro u hu;simp at hu;subst hu;rfl) (by unfold maxLen;omega) za (by rw[qH6,qH6];omega);have R:yM N2 w2 w3:=z.out.trans ((((yR _ wr).alloc a6 _).alloc (by rw[qH6];omega) _).trans ((yR _ _).grown M (by rw[qH6,qH6];omega) (fun k hk=>r.out.block k hk)));obtain⟨a5,Y,HX⟩:=yV L R hx;clear L R M hx;go_wp2_with (at_builtin;refine xG rfl (.tmp 17) (.tmp 20) 23 rfl rfl rfl a8 ?_);go_roundw
     case rel=>
      refine⟨j+1,p3,c3,za,by go_num,rfl,?_,Y⟩;rw[zEz l' j G,HX.out,qQb];exact a5
     case measure=>exact qV
    .have a1:j=n:=za
     subst a1;go_wp2;go_ret;refine⟨_,_,_,rfl,?_,?_⟩
     .have h:=r.out;rw[qQc (by rw[B.out];omega)]at h;rw[o.out,qRr];exact h.base (by rw[<-s.out];omega)
     .exact N.out.trans ((O.out.mono za).trans (z.out.mono (by rw[<-s.out];omega)))
 .have F:right c=yI:=by simpa using hr
  have f:order c=[]:=by unfold order;rw[F];simp
  have o:=zH f;rw[F];clear hr F f;go_wp2;go_ret;exact⟨_,_,_,rfl,by rw[o.out];exact Kit.Own.start _ _ _,N.out⟩
end Cache
namespace Cache
open Go.Shelf
variable {w w':yC} {X R:Nat} {room clock:Int}
theorem qMi {l l':List Hd} (b:qId l) (a:l'.Perm l) (d:l'.Pairwise fun x y=>x.blk<=y.blk):l'=l:=by
 refine zL5 Hd.blk l' l a ?_ b;have c:l'.Pairwise fun x y=>x.blk≠y.blk:=(qUj (fun h=>qQ4 h) a).2 (b.imp fun h=>za);exact(d.and c).imp fun h=>za
structure qJo (w':yC) (X R:Nat) (room clock:Int):Prop where
 x0:w'.cell? ⟨X,0,yB⟩=yA (qX qm room)
 x1:w'.cell? ⟨X,1,yB⟩=yA (qX qm clock)
 r0:w'.cell? ⟨R,0,yB⟩=yA (qX qm 0)
 r1:w'.cell? ⟨R,1,yB⟩=yA (qX qm 0)
 r2:w'.cell? ⟨R,2,yB⟩=yA (qZ yB 0 0)
 f0:w'.frozen? ⟨R,0,yB⟩=yI
 f1:w'.frozen? ⟨R,1,yB⟩=yI
 f2:w'.frozen? ⟨R,2,yB⟩=yI
theorem qJo.below {N:Nat} (h:qJo w X R room clock) (a:yM N w w') (c:X<N) (b:R<N):qJo w' X R room clock:=
 ⟨by rw[a.cell (p:=⟨X,0,yB⟩) c];exact h.x0,by rw[a.cell (p:=⟨X,1,yB⟩) c];exact h.x1,by rw[a.cell (p:=⟨R,0,yB⟩) b];exact h.r0,by rw[a.cell (p:=⟨R,1,yB⟩) b];exact h.r1,by rw[a.cell (p:=⟨R,2,yB⟩) b];exact h.r2,
  by rw[a.frozen (p:=⟨R,0,yB⟩) b];exact h.f0,by rw[a.frozen (p:=⟨R,1,yB⟩) b];exact h.f1,by rw[a.frozen (p:=⟨R,2,yB⟩) b];exact h.f2⟩
def qJx (W:yC) (X R:Nat) (room clock:Int) (w':yC):Prop:=
 w'.cell? ⟨X,0,yB⟩=yA (qX qm room)/\w'.cell? ⟨X,1,yB⟩=yA (qX qm clock)/\w'.cell? ⟨R,0,yB⟩=yA (qX qm 0)/\w'.cell? ⟨R,1,yB⟩=yA (qX qm 0)/\w'.cell? ⟨R,2,yB⟩=yA (qZ yB 0 0)/\
  w'.frozen? ⟨R,0,yB⟩=yI/\w'.frozen? ⟨R,1,yB⟩=yI/\w'.frozen? ⟨R,2,yB⟩=yI/\yL (yM W W w')
theorem qJo.all {W:yC} (h:qJo W X R room clock) (l:X<W.heap.size) (k:R<W.heap.size) (a:yM W W w'):qJx W X R room clock w':=by
 obtain⟨b,c,d,e,f,g,i,j⟩:=h.below a l k;exact⟨b,c,d,e,f,g,i,j,zH a⟩
theorem zB1 (w:yC) (r i:Nat) (u:yD):w.grownBy (w.setCell ⟨r,i,yB⟩ u) (yA r):=
 ⟨rfl,rfl,rfl,zm,fun k a hne=>Below.heap_setCell _ _ _ k (fun e=>hne (by rw[e]))⟩
theorem qI.set {B r i:Nat} {a:Option yF} {n c:Nat} {l:List Hd} (h:qI w B a n c l) (b:r<B) (u:yD):qI (w.setCell ⟨r,i,yB⟩ u) B a n c l:=
 qRz h (zB1 w r i u) (qy fun e=>by have:=h.block r e;omega)
theorem qIl {x y z u v t:yD} (a:w.cell? ⟨R,0,yB⟩=yA u) (b:w.cell? ⟨R,1,yB⟩=yA v) (c:w.cell? ⟨R,2,yB⟩=yA t):
  (((w.setCell ⟨R,0,yB⟩ x).setCell ⟨R,1,yB⟩ y).setCell ⟨R,2,yB⟩ z).cell? ⟨R,0,yB⟩=yA x/\(((w.setCell ⟨R,0,yB⟩ x).setCell ⟨R,1,yB⟩ y).setCell ⟨R,2,yB⟩ z).cell? ⟨R,1,yB⟩=yA y/\(((w.setCell ⟨R,0,yB⟩ x).setCell ⟨R,1,yB⟩ y).setCell ⟨R,2,yB⟩ z).cell? ⟨R,2,yB⟩=yA z:=by
 have g1:(w.setCell ⟨R,0,yB⟩ x).cell? ⟨R,1,yB⟩=yA v:=by rw[qQf _ _ _ _ (by intro e;injection e with _ e2 _;omega)];exact b
 have g2:((w.setCell ⟨R,0,yB⟩ x).setCell ⟨R,1,yB⟩ y).cell? ⟨R,2,yB⟩=yA t:=by
  rw[qQf _ _ _ _ (by intro e;injection e with _ e2 _;omega),qQf _ _ _ _ (by intro e;injection e with _ e2 _;omega)];exact c
 refine⟨?_,?_,qRj _ _ _ g2⟩
 .rw[qQf _ _ _ _ (by intro e;injection e with _ e2 _;omega),qQf _ _ _ _ (by intro e;injection e with _ e2 _;omega)];exact qRj _ _ _ a
 .rw[qQf _ _ _ _ (by intro e;injection e with _ e2 _;omega)];exact qRj _ _ _ g1
theorem Below.qI4 {D:Nat} (h:yM D w w') (a:D<=R) (x y z:yD):yM D w (((w'.setCell ⟨R,0,yB⟩ x).setCell ⟨R,1,yB⟩ y).setCell ⟨R,2,yB⟩ z):=
 ((h.setCell (p:=⟨R,0,yB⟩) a x).setCell (p:=⟨R,1,yB⟩) a y).setCell (p:=⟨R,2,yB⟩) a z
theorem qM3 (b nd B:Nat) (l:List Hd) (c:Sh) (a:Option yF) (a3:Nat) (q:Int) (a0:ByteArray) (w:yC) (hd:qIc w b nd l) (a8:nd<=1000) (hB:B<=b) (a5:B<=w.heap.size) (hl:kN l<=500) (ac:0<=c.clock) (a7:c.clock<qIf) (ab:0<=q) (a6:q<=9223372036854775807):
  yG yK 290 #[.map (yA b),zC7 c a a3,qX qm q,qY a0] w fun e w'=>∃a' n k,e=qx (.agg #[qX qm c.room,qX qm (c.clock+1),qZ a' n k])/\
   qI w' w.heap.size a' n k (put ⟨q,c.clock+1,a0⟩ l)/\yM B w w'/\(∀k,k<w.heap.size->k≠b->w'.heap[k]? =w.heap[k]?):=by
 unfold qIf at a7;obtain⟨W0,f⟩:=zB ((w.alloc (qp #[qX qm c.room,qX qm c.clock,qZ a (kN c.held) a3] TS)).alloc (qp #[qX qm 0,qX qm 0,qZ yB 0 0] TS));have a9:=hd.lt;have ad:W0.heap.size=w.heap.size+2:=by rw[<-f,qH6,qH6]
 have i:yM w w W0:=by rw[<-f];exact((yR _ w).alloc (qPq _) _).alloc (by rw[qH6];omega) _
 have F:W0.heap[w.heap.size]? =yA (qp #[qX qm c.room,qX qm c.clock,qZ a (kN c.held) a3] TS):=by
  rw[<-f,Below.heap_alloc _ _ _ (by rw[qH6];omega)];exact World.alloc_heap_new _ _
 have L:W0.heap[w.heap.size+1]? =yA (qp #[qX qm 0,qX qm 0,qZ yB 0 0] TS):=by
  rw[<-f];have h:=World.alloc_heap_new (w.alloc (qp #[qX qm c.room,qX qm c.clock,qZ a (kN c.held) a3] TS)) (qp #[qX qm 0,qX qm 0,qZ yB 0 0] TS);rwa[qH6]at h
 obtain⟨W,G,K,u⟩:=(hd.below i (qPq _)).store ⟨q,c.clock+1,a0⟩ (by show _<=q;omega) a6 za;have j:=u.grown;have ae:w.heap.size+2<=W.heap.size:=by have:=j.size;omega
 have I:W.heap[w.heap.size]? =W0.heap[w.heap.size]? :=j.block _ za (fun e=>by injection e with e;omega);have H:W.heap[w.heap.size+1]? =W0.heap[w.heap.size+1]? :=j.block _ za (fun e=>by injection e with e;omega);have hU:qJo W w.heap.size (w.heap.size+1) c.room c.clock:=by
  rw[F]at I;rw[L]at H;refine⟨?_,?_,?_,?_,?_,?_,?_,?_⟩<;>simp[yQ,World.frozen?,I,H]
 have M:yM B w W:=(i.mono a5).trans (qI5 u hB za);have Y:yL (∀k,k<w.heap.size->k≠b->W.heap[k]? =w.heap[k]?):=zH (fun k hk hne=>(j.block k za (fun e=>by injection e with e;exact hne e)).trans (i.block k hk));have S:W0.cell? ⟨w.heap.size,1,yB⟩=yA (qX qm c.clock):=by simp[yQ,F]
 have h0:=hU.all za za ((yR W.heap.size W).drew);have all:∀w',yM W W w'->qJx W w.heap.size (w.heap.size+1) c.room c.clock w':=fun w' h=>hU.all za za h;have s:∀w',yL (yM W W w')->yG yK 321 #[] w' fun e w1=>e=qx (.agg #[.func (.func 346) #[] #[]])/\qJx W w.heap.size (w.heap.size+1) c.room c.clock w1/\yL (yM w' w' w1):=fun w' Z=>
  (qLn w').mono fun e w1 ⟨he,h1⟩=>⟨he,all _ (Z.out.trans (h1.mono Z.out.size)),zH h1⟩
 have d:∀w',yL (yM W W w')->yG yK 322 #[.map (yA b)] w' fun e w1=>∃Bs,e=qx (.func (.func 347) #[] #[qc (yA ⟨Bs,0,yB⟩)])/\qJx W w.heap.size (w.heap.size+1) c.room c.clock w1/\yL (Bs<w1.heap.size/\w1.cell? ⟨Bs,0,yB⟩=yA (.map (yA b))):=fun w' Z=>
  (qLk (yA b) w').mono fun e w1 ⟨he,h1⟩=>⟨_,he,all _ (by rw[h1];exact Z.out.alloc Z.out.size _),zH (by rw[h1,qH6];exact⟨za,zm⟩)⟩
 have g:∀w' Bs,yL (yM W W w')->yL (Bs<w'.heap.size/\w'.cell? ⟨Bs,0,yB⟩=yA (.map (yA b)))->yG yK 203 #[.func (.func 347) #[] #[qc (yA ⟨Bs,0,yB⟩)]] w' fun e w1=>∃a1 n1 k1,e=qx (qZ a1 n1 k1)/\qJx W w.heap.size (w.heap.size+1) c.room c.clock w1/\yL (∃l1:List Hd,l1.Perm (put ⟨q,c.clock+1,a0⟩ l)/\kN l1=n1/\qIg w1 a1 l1):=fun w' Bs Z a4=>by
  have t:kN (put ⟨q,c.clock+1,a0⟩ l)<=1000:=by
   obtain⟨D,_,hD⟩:=hd;have:=zFm l hD.rise ⟨q,c.clock+1,a0⟩;split at this<;>omega
  have hq:=qLj 2 w'.heap.size Bs b (nd+1) za (put ⟨q,c.clock+1,a0⟩ l) w' (K.below Z.out (qPq _)) (qPq _) a4.out.1 a4.out.2;exact(zS5 _ _ _ _ t w' (enters_of func347 zf rfl) hq).mono fun e w1 ⟨a1,n1,k1,l1,he,p1,p2,p3⟩=>
   ⟨a1,n1,k1,he,all _ (Z.out.trans (p3.mono Z.out.size)),zH ⟨l1,p1,p2.len,p2.src⟩⟩
 have m:∀w' a1 n1 k1,yL (yM W W w')->yL (∃l1:List Hd,l1.Perm (put ⟨q,c.clock+1,a0⟩ l)/\kN l1=n1/\qIg w' a1 l1)->yG yK 119 #[.agg #[.func (.func 346) #[] #[]],qZ a1 n1 k1] w' fun e w2=>∃a2 n2 k2,e=qx (qZ a2 n2 k2)/\qJx W w.heap.size (w.heap.size+1) c.room c.clock w2/\yL (qI w2 W.heap.size a2 n2 k2 (put ⟨q,c.clock+1,a0⟩ l)):=fun w' a1 n1 k1 Z hs=>by
  obtain⟨D,_,hD⟩:=hd;obtain⟨l1,q1,q2,q3⟩:=hs.out;have t:kN (put ⟨q,c.clock+1,a0⟩ l)<=1000:=by
   have:=zFm l hD.rise ⟨q,c.clock+1,a0⟩;split at this<;>omega
  exact(qJl 346 _ qNh a1 n1 k1 l1 q2 (by rw[<-q2,q1.length_eq];exact t) w' q3).mono fun e w2 ⟨a2,n2,k2,l2,he,p1,p2,p3,p4⟩=>
   ⟨a2,n2,k2,he,all _ (Z.out.trans (p4.mono Z.out.size)),zH (by rw[<-qMi (hD.rise.put _) (p1.trans q1) p2];exact p3.base Z.out.size)⟩
 unfold qJx at h0 s d g m;obtain⟨i0,i1,i2,i3,i4,i5,i6,i7,i8⟩:=h0;obtain⟨O,P,V,R,X,aa⟩:=yZ s d g m M f;have r:IntKind.i64.wrap (c.clock+1)=c.clock+1:=qQa _ ⟨za,za⟩;have N:=zH r;have lX:w.heap.size<W.heap.size:=za
 have lR:w.heap.size+1<W.heap.size:=za
 clear s d g m M all r hd K i F L I H j u hU hl a8;unfold zC7;unfold hval at G;go_enter func290,ntmps290;go_wp2_with (at_mapUpdate;refine qK0 rfl _ _ _ 416 rfl rfl rfl rfl G ?_);have r:=N.out;clear S f G;go_region_held3 (fun w'=>w'.cell? ⟨w,0,yB⟩=yA (qX qm c.room)/\w'.cell? ⟨w.heap.size,1,yB⟩=yA (qX qm c.clock)) (first|assumption|(refine⟨?_,?_⟩<;>assumption)|(refine⟨?_,?_⟩<;>(rw[qQf _ _ _ _ zm,qQf _ _ _ _ zm,qQf _ _ _ _ zm];assumption))|go_keep)
  (first
   |(go_at_call 321;refine(O.out _ (by assumption)).mono ?_;rintro e ag ⟨rfl,⟨p0,p1,p2,p3,p4,p5,p6,p7,p8⟩,o⟩)
   |(go_at_call 322;refine(P.out _ (by assumption)).mono ?_;rintro e ai ⟨Bs,rfl,⟨q0,q1,q2,q3,q4,q5,q6,q7,q8⟩,d⟩)
   |(go_at_call 203;refine(V.out _ _ (by assumption) ?_).mono ?_;(first|exact d|exact zH ⟨qQx d.out.1 o.out.size,(o.out.cell (p:=⟨_,0,none⟩) d.out.1).trans d.out.2⟩);rintro e ah ⟨a1,n1,k1,rfl,⟨r0,r1,r2,r3,r4,r5,r6,r7,r8⟩,g⟩)
   |(go_at_call 119;refine(R.out _ _ _ _ (by assumption) ?_).mono ?_;(first|exact g|exact zH (g.out.elim fun l1 h=>⟨l1,h.1,h.2.1,h.2.2.below o.out rfl⟩));rintro e af ⟨a2,n2,k2,rfl,⟨s0,s1,s2,s3,s4,s5,s6,s7,s8⟩,m⟩))
 clear r;go_wp2;obtain⟨z0,z1,z2⟩:=qIl (x:=qX qm c.room) (y:=qX qm (c.clock+1)) (z:=qZ a2 n2 k2) s2 s3 s4;refine qP5 (v:= .agg #[qX qm c.room,qX qm (c.clock+1),qZ a2 n2 k2]) ?_ rfl ?_
 .exact qIw rfl _ _ _ ⟨w.heap.size+1,0,yB⟩ _ rfl (qIm _ _ _ _ _ z0 z1 z2)
 .exact⟨a2,n2,k2,rfl,(((m.out.set lR _).set lR _).set lR _).base za,Below.qI4 (X.out.trans (s8.out.mono za)) za _ _ _,fun k hk hne=>((Below.qI4 (s8.out.mono (qP7 lX)) za _ _ _).block k hk).trans (Y.out k hk hne)⟩
end Cache
namespace Cache
open Go.Shelf
variable {fn:Func} {p u:Tmp} {ty:yE} {w w':yC} {a:Option yF} {k B n c R:Nat}
theorem qJa (h:fn.results= #[.cell p ty,.tmp u]) (tmps:Array yD) (P:Program) (w:yC) (a:yF) (v:yD) (d:tmps.getD p yN=qc (yA a)) (b:(loadVar ty a).run P w= .ok v w):
  (results fn tmps).run P w= .ok (qg #[v,tmps.getD u yN]) w:=by
 rw[results_cell_tmp h,d];simp[asAddr,b,Result.andThen]
theorem qIh {t:Tmp} (h:fn.results= #[.tmp t,.cell p ty,.tmp u]) (tmps:Array yD) (P:Program) (w:yC) (a:yF) (v:yD) (e:tmps.getD p yN=qc (yA a)) (d:(loadVar ty a).run P w= .ok v w):
  (results fn tmps).run P w= .ok (qg #[tmps.getD t yN,v,tmps.getD u yN]) w:=by
 have b:tmps[p]?.getD yN=qc (yA a):=by simpa using e
 simp[results,h,b,asAddr,d,Result.andThen]
structure ShW (w:yC) (c:Sh) (a:Option yF) (k:Nat):Prop where
 src:qIg w a c.held
 nil:a=yB->kN c.held=0/\k=0
 wf:Wf c.held
theorem ShW.below {c:Sh} (h:ShW w c a k) (d:yM B w w') (b:B=w.heap.size):ShW w' c a k:=⟨h.src.below d b,h.nil,h.wf⟩
theorem ShW.zero (w:yC):ShW w zero yB 0:=⟨qIg.nil _ _,fun _=>⟨rfl,rfl⟩,fun h b=>by cases b⟩
structure Sx (w:yC) (n:Nat) (a:Option yF) (k:Nat):Prop where
 cap:n<=k
 ty:∀g o,a=yA ⟨g,o,yB⟩->∃cs f,w.heap[g]? =yA (qp cs TH f)
theorem Sx.zero (w:yC):Sx w (kN zero.held) yB 0:=⟨qPq _,fun _ _ h=>by cases h⟩
theorem Sx.own {l:List Hd} (h:qI w B a n c l):Sx w (kN l) a c:=by
 have r:=h.len;obtain⟨_,f⟩:=h;rcases f with⟨e,f⟩|⟨g',j,m,hv,_,i,q,_⟩
 .injection e with e _ h3
  exact⟨za,fun g o d=>by rw[e]at d;cases d⟩
 .injection hv with d hn hc
  refine⟨za,fun g o b=> ?_⟩;rw[d]at b;injection b with b
  injection b with b
  subst b;exact⟨_,_,i⟩
noncomputable def newS (b:Int):Sh:=if right ⟨b,0,[]⟩=yH then⟨b,0,[]⟩else zero
noncomputable def newE (b:Int):Int:=if right ⟨b,0,[]⟩=yH then 0 else 1
theorem qN7 (d:Int) (w:yC):
  yG yK 135 #[qX qm d] w fun e w'=>e=qx (qg #[zC7 (newS d) yB 0,qX qm (newE d)])/\yM w w w':=by
 have H:=zH (fun w'=>zGf ⟨d,0,[]⟩ yB 0 w' (by unfold maxLen;simp) (qIg.nil _ _));unfold zC7 at H;go_enter func135,ntmps135;go_wp2_with fail;refine(H.out _).mono ?_;rintro e f ⟨rfl,a⟩;have m:=a.size;rw[qH6,qH6]at m;have G:w.heap.size<f.heap.size:=za
 have o:f.cell? ⟨w,0,yB⟩=yA (qX qm 0):=by rw[a.cell (p:=⟨w,0,yB⟩) (by rw[qH6,qH6];show w.heap.size<_;omega)];simp
 have q:f.cell? ⟨w.heap.size,1,yB⟩=yA (qX qm 0):=by rw[a.cell (p:=⟨w.heap.size,1,yB⟩) (by rw[qH6,qH6];show w.heap.size<_;omega)];simp
 have r:f.cell? ⟨w.heap.size,2,yB⟩=yA (qZ yB 0 0):=by rw[a.cell (p:=⟨w.heap.size,2,yB⟩) (by rw[qH6,qH6];show w.heap.size<_;omega)];simp
 have s:f.frozen? ⟨w,0,yB⟩=yI:=by rw[a.frozen (p:=⟨w,0,yB⟩) (by rw[qH6,qH6];show w.heap.size<_;omega)];simp
 have t:f.frozen? ⟨w.heap.size,1,yB⟩=yI:=by rw[a.frozen (p:=⟨w.heap.size,1,yB⟩) (by rw[qH6,qH6];show w.heap.size<_;omega)];simp
 have F:f.frozen? ⟨w.heap.size,2,yB⟩=yI:=by rw[a.frozen (p:=⟨w.heap.size,2,yB⟩) (by rw[qH6,qH6];show w.heap.size<_;omega)];simp
 have I:f.cell? ⟨w.heap.size+1,0,yB⟩=yA (qX qm d):=by rw[a.cell (p:=⟨w.heap.size+1,0,yB⟩) (by rw[qH6,qH6];show w.heap.size+1<_;omega)];simp
 have K:f.cell? ⟨w.heap.size+1,1,yB⟩=yA (qX qm 0):=by rw[a.cell (p:=⟨w.heap.size+1,1,yB⟩) (by rw[qH6,qH6];show w.heap.size+1<_;omega)];simp
 have L:f.cell? ⟨w.heap.size+1,2,yB⟩=yA (qZ yB 0 0):=by rw[a.cell (p:=⟨w.heap.size+1,2,yB⟩) (by rw[qH6,qH6];show w.heap.size+1<_;omega)];simp
 have HB:=zH (((yR w.heap.size w).alloc (qPq _) (qp #[qX qm 0,qX qm 0,qZ yB 0 0] TS)).alloc (by rw[qH6];omega) (qp #[qX qm d,qX qm 0,qZ yB 0 0] TS)|>.trans (a.mono (by rw[qH6,qH6];omega)));clear a m;by_cases g:right ⟨d,0,[]⟩=yH
 .have h:=yT (newS d=⟨d,0,[]⟩) (by unfold newS;rw[qPr g]);have i:=yT (newE d=0) (by unfold newE;rw[qPr g]);rw[g];clear g;go_wp2;obtain⟨j,l,z2⟩:=qIl (x:=qX qm d) (y:=qX qm 0) (z:=qZ yB 0 0) o q r;refine qP5 (v:=qg #[.agg #[qX qm d,qX qm 0,qZ yB 0 0],qX qm 0]) ?_ rfl ?_
  .exact qJa (p:=2) (u:=3) (ty:=TS) rfl _ _ _ ⟨w,0,yB⟩ _ zh (qIm _ _ _ _ _ j l z2)
  .exact⟨by rw[h.out,i.out];rfl,Below.qI4 HB.out (qPq _) _ _ _⟩
 .have h:=yT (newS d=zero) (by unfold newS;rw[qPt g]);have i:=yT (newE d=1) (by unfold newE;rw[qPt g]);have b:right ⟨d,0,[]⟩=yI:=by simpa using g
  rw[b];clear g b;go_wp2;obtain⟨j,l,z2⟩:=qIl (x:=qX qm 0) (y:=qX qm 0) (z:=qZ yB 0 0) o q r;refine qP5 (v:=qg #[.agg #[qX qm 0,qX qm 0,qZ yB 0 0],qX qm 1]) ?_ rfl ?_
  .exact qJa (p:=2) (u:=3) (ty:=TS) rfl _ _ _ ⟨w,0,yB⟩ _ zh (qIm _ _ _ _ _ j l z2)
  .exact⟨by rw[h.out,i.out];rfl,Below.qI4 HB.out (qPq _) _ _ _⟩
structure Rz (w:yC) (R:Nat):Prop where
 r0:w.cell? ⟨R,0,yB⟩=yA (qX qm 0)
 r1:w.cell? ⟨R,1,yB⟩=yA (qX qm 0)
 r2:w.cell? ⟨R,2,yB⟩=yA (qZ yB 0 0)
 f0:w.frozen? ⟨R,0,yB⟩=yI
 f1:w.frozen? ⟨R,1,yB⟩=yI
 f2:w.frozen? ⟨R,2,yB⟩=yI
theorem Rz.of (h:w.heap[R]? =yA (qp #[qX qm 0,qX qm 0,qZ yB 0 0] TS)):Rz w R:=by
 refine⟨?_,?_,?_,?_,?_,?_⟩<;>simp[yQ,World.frozen?,h]
structure Bx (w:yC) (X:Nat) (room clock:Int) (a:Option yF) (n cap:Nat):Prop where
 x0:w.cell? ⟨X,0,yB⟩=yA (qX qm room)
 x1:w.cell? ⟨X,1,yB⟩=yA (qX qm clock)
 x2:w.cell? ⟨X,2,yB⟩=yA (qZ a n cap)
theorem Bx.of {X:Nat} {d b:Int} {e:Nat} (h:w.heap[X]? =yA (qp #[qX qm d,qX qm b,qZ a n e] TS)):Bx w X d b a n e:=by
 refine⟨?_,?_,?_⟩<;>simp[yQ,h]
theorem qI.nil {l:List Hd} (h:qI w B a n c l) (e:a=yB):n=0/\c=0:=by
 subst e;rcases h.2 with⟨b,d⟩|⟨g,f,i,b,_⟩
 .injection b with _ _ h3
  exact⟨d,h3⟩
 .injection b with b;cases b
theorem Wf.put {l:List Hd} (h:Wf l) (f:qId l) (x:Hd) (d: -9223372036854775808<=x.blk) (e:x.blk<=9223372036854775807):Wf (put x l):=by
 intro y b;rcases(qIs x l f y).1 b with rfl|⟨b,_⟩
 .exact⟨d,e⟩
 .exact h y b
theorem qIe {p:yF} {v:yD} (h:w.cell? p=yA v) (o:Obj):(w.alloc o).cell? p=yA v:=by rw[World.cell?_alloc_some _ _ _ (by rw[h];rfl)];exact h
theorem qJp {i:Nat} {x y z:yD} (h:k≠R):(((w.setCell ⟨R,0,yB⟩ x).setCell ⟨R,1,yB⟩ y).setCell ⟨R,2,yB⟩ z).cell? ⟨k,i,yB⟩=w.cell? ⟨k,i,yB⟩:=by
 rw[qQf _ _ _ _ (by intro e;injection e with e _;exact h e.symm),qQf _ _ _ _ (by intro e;injection e with e _;exact h e.symm),qQf _ _ _ _ (by intro e;injection e with e _;exact h e.symm)]
theorem Rz.kept (h:Rz w R) (e:w'.heap[R]? =w.heap[R]?):Rz w' R:=by
 have b:∀i,w'.cell? ⟨R,i,yB⟩=w.cell? ⟨R,i,yB⟩:=fun i=>qRg e;have d:∀i,w'.frozen? ⟨R,i,yB⟩=w.frozen? ⟨R,i,yB⟩:=fun i=>qTr e;exact⟨by rw[b];exact h.r0,by rw[b];exact h.r1,by rw[b];exact h.r2,by rw[d];exact h.f0,by rw[d];exact h.f1,by rw[d];exact h.f2⟩
theorem qJf (W:yC) (b t:Nat) (l:List Hd) (c:Sh) (a:Option yF) (o:Nat) (m:Int) (r:ByteArray) (X R B:Nat) (hd:qIc W b t l) (H:t<=1000) (P:kN l<=500) (F:0<=c.clock) (G:c.clock<qIf) (y:0<=m) (z:m<=9223372036854775807)
  (L:X<B) (K:R<B) (I:B<=b) (q:Bx W X c.room c.clock a (kN c.held) o) (x:Rz W R) (w':yC) (h:yL (yM W W w')):
  yG yK 290 #[.map (yA b),.agg #[qX qm c.room,qX qm c.clock,qZ a (kN c.held) o],qX qm m,qY r] w' fun e g=>∃a' n k,e=qx (.agg #[qX qm c.room,qX qm (c.clock+1),qZ a' n k])/\
   yL (qI g W.heap.size a' n k (put ⟨m,c.clock+1,r⟩ l))/\yL (yM B W g)/\yL (∀k,k<W.heap.size->k≠b->g.heap[k]? =W.heap[k]?)/\yL (Rz g R)/\yL (Bx g X c.room c.clock a (kN c.held) o):=by
 have V:=hd.lt;refine(qM3 b t B l c a o m r w' (hd.below h.out (qPq _)) H I (by have:=h.out.size;omega) P F G y z).mono ?_;rintro e g ⟨a',n,k,M,S,f,O⟩;have d:yM B W g:=(h.out.mono za).trans f;refine⟨a',n,k,M,zH (S.base h.out.size),zH d,zH (fun j N hne=>(O j (by have:=h.out.size;omega) hne).trans (h.out.block j N)),zH (x.kept (d.block R K)),zH ?_⟩;have s:∀i,g.cell? ⟨X,i,yB⟩=W.cell? ⟨X,i,yB⟩:=fun i=>qRg (d.block X L);exact⟨by rw[s];exact q.x0,by rw[s];exact q.x1,by rw[s];exact q.x2⟩
theorem zPy (c:Sh) (a:Option yF) (ar:Nat) (q:Int) (w:yC) (hm:kN c.held<=1000000) (hs:ShW w c a ar) (av: -9223372036854775808<=q) (au:q<=9223372036854775807):
  yG yK 253 #[zC7 c a ar,qX qm q] w fun e w'=>∃a' k,e=qx (qg #[qY (take c q).1,zC7 (take c q).2.1 a' k,qX qm (take c q).2.2])/\ShW w' (take c q).2.1 a' k/\Sx w' (take c q).2.1.held.length a' k/\yM w w w':=by
 obtain⟨W0,s⟩:=zB ((w.alloc (qp #[qX qm c.room,qX qm c.clock,qZ a (kN c.held) ar] TS)).alloc (qp #[qX qm 0,qX qm 0,qZ yB 0 0] TS));have a6:W0.heap.size=w.heap.size+2:=by rw[<-s,qH6,qH6]
 have G:yM w w W0:=by rw[<-s];exact((yR _ w).alloc (qPq _) _).alloc (by rw[qH6];omega) _
 have M:W0.heap[w.heap.size]? =yA (qp #[qX qm c.room,qX qm c.clock,qZ a (kN c.held) ar] TS):=by
  rw[<-s,Below.heap_alloc _ _ _ (by rw[qH6];omega)];exact World.alloc_heap_new _ _
 have a7:W0.heap[w.heap.size+1]? =yA (qp #[qX qm 0,qX qm 0,qZ yB 0 0] TS):=by
  rw[<-s];have h:=World.alloc_heap_new (w.alloc (qp #[qX qm c.room,qX qm c.clock,qZ a (kN c.held) ar] TS)) (qp #[qX qm 0,qX qm 0,qZ yB 0 0] TS);rwa[qH6]at h
 obtain⟨x0,x1,x2⟩:=Bx.of M;obtain⟨HR,aj,ap,X,HS,K⟩:=yZ (zGf c a ar W0 (by unfold maxLen;omega) (hs.src.below G rfl)) M a7 G hs a6;clear M a7 G hs a6;unfold zC7 at HR;rw[show zC7 c a ar= .agg #[qX qm c.room,qX qm c.clock,qZ a (kN c.held) ar]from rfl];go_enter func253,ntmps253;go_wp2_with fail;refine HR.out.mono ?_;rintro e W ⟨rfl,m⟩;have i:W.heap[w.heap.size]? =yA (qp #[qX qm c.room,qX qm c.clock,qZ a (kN c.held) ar] TS):=(m.block _ (by rw[K.out];omega)).trans aj.out;have g:W.heap[w.heap.size+1]? =yA (qp #[qX qm 0,qX qm 0,qZ yB 0 0] TS):=(m.block _ (by rw[K.out];omega)).trans ap.out;have az:w.heap.size+2<=W.heap.size:=by have:=m.size;rw[K.out]at this;exact this
 obtain⟨y0,y1,y2⟩:=Bx.of i;obtain⟨r0,r1,r2,f0,f1,f2⟩:=Rz.of g;obtain⟨ai,af,a8,P⟩:=yX i g (X.out.trans (m.mono (by rw[K.out];omega))) ((HS.out.below X.out rfl).below m rfl);clear m i g x0 x1 x2 s;by_cases hr:right c=yH
 .have N:=zH hr;have hg:=(zIu c).1 hr;unfold Right at hg;have ax:kN c.held<=64:=za
  have F:=zH hg;rw[hr];clear hr hg;have a2:=zH (zXe c a ar W za F.out.2.2.2.2.2.2.1 P.out.wf P.out.src);unfold zC7 at a2;go_wp2_with fail;refine a2.out.mono ?_;rintro e W2 ⟨b,rfl,I,r,B⟩;have d:=r.look q av au;have i:W2.heap[w.heap.size]? =W.heap[w.heap.size]? :=B.block _ za;have g:W2.heap[w.heap.size+1]? =W.heap[w.heap.size+1]? :=B.block _ za;rw[ai.out]at i;rw[af.out]at g;obtain⟨O,an⟩:=yU (Bx.of i) (Rz.of g);obtain⟨y0,y1,y2⟩:=Bx.of i;obtain⟨r0,r1,r2,f0,f1,f2⟩:=Rz.of g;have b0:W.heap.size<=W2.heap.size:=B.size;have b1:w.heap.size<W2.heap.size:=za
  have ag:w.heap.size+1<W2.heap.size:=za
  obtain⟨S,a5,ao⟩:=yV (a8.out.trans (B.mono za)) r I;clear i g B r I;rcases hf:find q c.held with _|h
  .have E:=yT (take c q=(⟨#[]⟩,zero,5)) (by unfold take;rw[qPr N.out,hf]);rw[hf]at d;simp only[Option.getD_none,Option.isSome_none,hval,qJe]at d;clear hf;go_wp2;obtain⟨z0,z1,z2⟩:=qIl (w:=W2) (R:=w.heap.size+1) (x:=qX qm 0) (y:=qX qm 0) (z:=qZ yB 0 0) r0 r1 r2;refine qP5 (v:=qg #[qY ⟨#[]⟩,.agg #[qX qm 0,qX qm 0,qZ yB 0 0],qX qm 5]) ?_ rfl ?_
   .exact qIh (t:=4) (p:=5) (u:=6) (ty:=TS) rfl _ _ _ ⟨w.heap.size+1,0,yB⟩ _ zh (qIm _ _ _ _ _ (qIe z0 _) (qIe z1 _) (qIe z2 _))
   .exact⟨yB,0,by rw[E.out];rfl,by rw[E.out];exact ShW.zero _,by rw[E.out];exact Sx.zero _,(Below.qI4 S.out za _ _ _).alloc zq _⟩
  .by_cases j:c.clock=qIf
   .have E:=yT (take c q=(⟨#[]⟩,zero,4)) (by unfold take;rw[qPr N.out,hf];simp only;rw[qPr j]);rw[hf]at d;simp only[qQ5,Option.isSome_some,hval]at d;clear hf;unfold qIf at j;rw[j]at y1;have ay:=zH j;clear j;go_wp2;obtain⟨z0,z1,z2⟩:=qIl (w:=W2) (R:=w.heap.size+1) (x:=qX qm 0) (y:=qX qm 0) (z:=qZ yB 0 0) r0 r1 r2;refine qP5 (v:=qg #[qY ⟨#[]⟩,.agg #[qX qm 0,qX qm 0,qZ yB 0 0],qX qm 4]) ?_ rfl ?_
    .exact qIh (t:=4) (p:=5) (u:=6) (ty:=TS) rfl _ _ _ ⟨w.heap.size+1,0,yB⟩ _ zh (qIm _ _ _ _ _ (qIe z0 _) (qIe z1 _) (qIe z2 _))
    .exact⟨yB,0,by rw[E.out];rfl,by rw[E.out];exact ShW.zero _,by rw[E.out];exact Sx.zero _,(Below.qI4 S.out za _ _ _).alloc zq _⟩
   .have E:=yT (take c q=(h.txt,after c c.held q h.txt,0)) (by unfold take;rw[qPr N.out,hf];simp only;rw[qPt j]);rw[hf]at d;simp only[qQ5,Option.isSome_some,hval]at d;obtain⟨V,aa⟩:=qIb hf;have ad:0<=q:=by rw[<-aa];exact(F.out.2.2.2.2.2.1 h V).1
    have HF:=zH hf;unfold qIf at j;clear hf V aa;obtain⟨W3,l⟩:=zB (W2.alloc (qIk h));have a3:W3.heap.size=W2.heap.size+1:=by rw[<-l,qH6]
    have ab:Bx W3 w.heap.size c.room c.clock a (kN c.held) ar:=by rw[<-l];exact⟨qIe O.out.x0 _,qIe O.out.x1 _,qIe O.out.x2 _⟩
    have Y:Rz W3 (w.heap.size+1):=by rw[<-l];exact an.out.kept (Below.heap_alloc _ _ _ ag)
    have ah:W3.cell? ⟨W2.heap.size,2,yB⟩=yA (qY h.txt):=by rw[<-l];exact(qIo.new W2 h).at_.2.2
    have a9:qIc W3 b (kN c.held) c.held:=by rw[<-l];exact a5.out.alloc _
    have a4:yM w w W3:=by rw[<-l];exact S.out.alloc za _
    have ae:=a5.out.lt;have I:=ao.out;have a1:=qJf W3 b (kN c.held) c.held c a ar q h.txt w.heap.size (w.heap.size+1) (w.heap.size+2) a9 za za F.out.2.2.1 (by have:=F.out.2.2.2.1;unfold qIf at this⊢;omega) ad au za za za ab Y;have f:∀w',yL (yM W3 W3 w')->yG yK 290 #[.map (yA b),.agg #[qX qm c.room,qX qm c.clock,qZ a (kN c.held) ar],qX qm q,qY h.txt] w' fun e w1=>∃a' n k,e=qx (.agg #[qX qm c.room,qX qm (c.clock+1),qZ a' n k])/\
      (w1.cell? ⟨W2.heap.size,2,yB⟩=yA (qY h.txt)/\w1.cell? ⟨w,0,yB⟩=yA (qX qm c.room)/\w1.cell? ⟨w.heap.size,1,yB⟩=yA (qX qm c.clock)/\w1.cell? ⟨w.heap.size,2,yB⟩=yA (qZ a (kN c.held) ar))/\
      (w1.cell? ⟨w.heap.size+1,0,yB⟩=yA (qX qm 0)/\w1.cell? ⟨w.heap.size+1,1,yB⟩=yA (qX qm 0)/\w1.cell? ⟨w.heap.size+1,2,yB⟩=yA (qZ yB 0 0)/\w1.frozen? ⟨w.heap.size+1,0,yB⟩=yI/\w1.frozen? ⟨w.heap.size+1,1,yB⟩=yI/\w1.frozen? ⟨w.heap.size+1,2,yB⟩=yI)/\
      yL (qI w1 W3.heap.size a' n k (put ⟨q,c.clock+1,h.txt⟩ c.held))/\yL (yM w w w1):=fun w' hb=>
     (a1 w' hb).mono fun e w1 ⟨a',n,k,he,p1,p2,p3,p4,p5⟩=>⟨a',n,k,he,⟨by rw[qRg (a:=⟨W2.heap.size,2,yB⟩) (p3.out W2.heap.size za za)];exact ah,p5.out.x0,p5.out.x1,p5.out.x2⟩,⟨p4.out.r0,p4.out.r1,p4.out.r2,p4.out.f0,p4.out.f1,p4.out.f2⟩,p1,zH (a4.trans (p2.out.mono za))⟩
    obtain⟨y0,y1,y2⟩:=ab;obtain⟨r0,r1,r2,f0,f1,f2⟩:=Y;obtain⟨aq,ak,am⟩:=yV f ((yR W3.heap.size W3).drew) a3;have hne:W2.heap.size≠w.heap.size+1:=za
    have H:w.heap.size≠w.heap.size+1:=za
    clear f a1 a9 a4 a3 ae I;go_wp2_with fail;go_region_held3 (fun w'=>w'.cell? ⟨W2.heap.size,2,yB⟩=yA (qY h.txt)/\w'.cell? ⟨w,0,yB⟩=yA (qX qm c.room)/\w'.cell? ⟨w.heap.size,1,yB⟩=yA (qX qm c.clock)/\w'.cell? ⟨w.heap.size,2,yB⟩=yA (qZ a (kN c.held) ar))
     (first|assumption|(refine⟨?_,?_,?_,?_⟩<;>assumption)|(exact⟨(qJp hne).trans (by assumption),(qJp H).trans (by assumption),(qJp H).trans (by assumption),(qJp H).trans (by assumption)⟩)|go_keep)
     (first|(go_at_call 290;refine(aq.out _ ak).mono ?_;rintro e b2 ⟨a',n,k,rfl,⟨t0,t1,t2,t3⟩,⟨s0,s1,s2,s3,s4,s5⟩,f,ac⟩))
    have L:=f.out.len;have o:w.heap.size+1<W3.heap.size:=by rw[am.out];omega
    have Z:=zH L;clear L;go_wp2;obtain⟨z0,z1,z2⟩:=qIl (x:=qX qm c.room) (y:=qX qm (c.clock+1)) (z:=qZ a' n k) s0 s1 s2;refine qP5 (v:=qg #[qY h.txt,.agg #[qX qm c.room,qX qm (c.clock+1),qZ a' n k],qX qm 0]) ?_ rfl ?_
    .exact qIh (t:=4) (p:=5) (u:=6) (ty:=TS) rfl _ _ _ ⟨w.heap.size+1,0,yB⟩ _ zh (qIm _ _ _ _ _ z0 z1 z2)
    .refine⟨a',k,?_,?_,?_,Below.qI4 ac.out za _ _ _⟩
     .rw[E.out];unfold zC7 after;simp only;rw[Z.out]
     .rw[E.out];exact⟨(((f.out.set o _).set o _).set o _).src,fun ha=>⟨Z.out.trans (f.out.nil ha).1,(f.out.nil ha).2⟩,P.out.wf.put F.out.2.2.2.2.2.2.1 _ av au⟩
     .rw[E.out];exact Sx.own (((f.out.set o _).set o _).set o _)
 .have a0:right c=yI:=by simpa using hr
  have E:=yT (take c q=(⟨#[]⟩,zero,1)) (by unfold take;rw[qPt hr]);rw[a0];clear hr a0;go_wp2;obtain⟨z0,z1,z2⟩:=qIl (x:=qX qm 0) (y:=qX qm 0) (z:=qZ yB 0 0) r0 r1 r2;refine qP5 (v:=qg #[qY ⟨#[]⟩,.agg #[qX qm 0,qX qm 0,qZ yB 0 0],qX qm 1]) ?_ rfl ?_
  .exact qIh (t:=4) (p:=5) (u:=6) (ty:=TS) rfl _ _ _ ⟨w.heap.size+1,0,yB⟩ _ zh (qIm _ _ _ _ _ z0 z1 z2)
  .exact⟨yB,0,by rw[E.out];rfl,by rw[E.out];exact ShW.zero _,by rw[E.out];exact Sx.zero _,Below.qI4 a8.out za _ _ _⟩
end Cache
namespace Cache
open Go.Shelf
theorem qKc (c:Sh) (a:Option yF) (c6:Nat) (bz:Int) (c7:ByteArray) (w:yC) (hm:kN c.held<=1000000) (hs:ShW w c a c6) (ca: -9223372036854775808<=bz) (c8:bz<=9223372036854775807):
  yG yK 258 #[zC7 c a c6,qX qm bz,qY c7] w fun e w'=>∃a' k,e=qx (qg #[qX qm (keep c bz c7).1,zC7 (keep c bz c7).2.1 a' k,qX qm (keep c bz c7).2.2])/\ShW w' (keep c bz c7).2.1 a' k/\Sx w' (keep c bz c7).2.1.held.length a' k/\yM w w w':=by
 obtain⟨W0,a3⟩:=zB ((w.alloc (qp #[qX qm c.room,qX qm c.clock,qZ a (kN c.held) c6] TS)).alloc (qp #[qX qm 0,qX qm 0,qZ yB 0 0] TS));have b6:W0.heap.size=w.heap.size+2:=by rw[<-a3,qH6,qH6]
 have aa:yM w w W0:=by rw[<-a3];exact((yR _ w).alloc (qPq _) _).alloc (by rw[qH6];omega) _
 have ah:W0.heap[w.heap.size]? =yA (qp #[qX qm c.room,qX qm c.clock,qZ a (kN c.held) c6] TS):=by
  rw[<-a3,Below.heap_alloc _ _ _ (by rw[qH6];omega)];exact World.alloc_heap_new _ _
 have b7:W0.heap[w.heap.size+1]? =yA (qp #[qX qm 0,qX qm 0,qZ yB 0 0] TS):=by
  rw[<-a3];have h:=World.alloc_heap_new (w.alloc (qp #[qX qm c.room,qX qm c.clock,qZ a (kN c.held) c6] TS)) (qp #[qX qm 0,qX qm 0,qZ yB 0 0] TS);rwa[qH6]at h
 obtain⟨x0,x1,x2⟩:=Bx.of ah;obtain⟨HR,bq,bx,b9,HS,ac⟩:=yZ (zGf c a c6 W0 (by unfold maxLen;omega) (hs.src.below aa rfl)) ah b7 aa hs b6;clear ah b7 aa hs b6;unfold zC7 at HR;rw[show zC7 c a c6= .agg #[qX qm c.room,qX qm c.clock,qZ a (kN c.held) c6]from rfl];go_enter func258,ntmps258;go_wp2_with fail;refine HR.out.mono ?_;rintro e W ⟨rfl,S⟩;have L:W.heap[w.heap.size]? =yA (qp #[qX qm c.room,qX qm c.clock,qZ a (kN c.held) c6] TS):=(S.block _ (by rw[ac.out];omega)).trans bq.out;have N:W.heap[w.heap.size+1]? =yA (qp #[qX qm 0,qX qm 0,qZ yB 0 0] TS):=(S.block _ (by rw[ac.out];omega)).trans bx.out;have cp:w.heap.size+2<=W.heap.size:=by have:=S.size;rw[ac.out]at this;exact this
 obtain⟨y0,y1,y2⟩:=Bx.of L;obtain⟨r0,r1,r2,f0,f1,f2⟩:=Rz.of N;obtain⟨bp,bi,af,a7⟩:=yX L N (b9.out.trans (S.mono (by rw[ac.out];omega))) ((HS.out.below b9.out rfl).below S rfl);clear S L N x0 x1 x2 a3;by_cases hr:right c=yH/\0<=bz
 .obtain⟨hr,M⟩:=hr;have aj:=zH hr;have hg:=(zIu c).1 hr;unfold Right at hg;have cc:kN c.held<=64:=za
  have g:=zH hg;rw[hr];clear hr hg;by_cases I:c.clock=qIf
  .have E:=yT (keep c bz c7=(0,zero,4)) (by unfold keep;rw[qPr ⟨aj.out,M⟩,qPr I]);unfold qIf at I;rw[I]at y1;have ce:=zH I;clear I;go_wp2;obtain⟨z0,z1,z2⟩:=qIl (x:=qX qm 0) (y:=qX qm 0) (z:=qZ yB 0 0) r0 r1 r2;refine qP5 (v:=qg #[qX qm 0,.agg #[qX qm 0,qX qm 0,qZ yB 0 0],qX qm 4]) ?_ rfl ?_
   .exact qIh (t:=6) (p:=7) (u:=8) (ty:=TS) rfl _ _ _ ⟨w.heap.size+1,0,yB⟩ _ zh (qIm _ _ _ _ _ z0 z1 z2)
   .exact⟨yB,0,by rw[E.out];rfl,by rw[E.out];exact ShW.zero _,by rw[E.out];exact Sx.zero _,Below.qI4 af.out za _ _ _⟩
  .have E:=yT (keep c bz c7=(goes c bz,after c (drop (goes c bz) c.held) bz c7,0)) (by unfold keep;rw[qPr ⟨aj.out,M⟩,qPt I]);have b5:=zH (zXe c a c6 W za g.out.2.2.2.2.2.2.1 a7.out.wf a7.out.src);unfold zC7 at b5;have cf:=zH I;unfold qIf at I;go_wp2_with fail;refine b5.out.mono ?_;rintro e W2 ⟨b,rfl,K,a0,a2⟩;have l:=a0.look bz ca c8;have L:W2.heap[w.heap.size]? =W.heap[w.heap.size]? :=a2.block _ za;have N:W2.heap[w.heap.size+1]? =W.heap[w.heap.size+1]? :=a2.block _ za;rw[bp.out]at L;rw[bi.out]at N;obtain⟨f,am⟩:=yU (Bx.of L) (Rz.of N);have cq:W.heap.size<=W2.heap.size:=a2.size;have ct:w.heap.size<W2.heap.size:=za
   have ay:w.heap.size+1<W2.heap.size:=za
   obtain⟨ao,r,b2⟩:=yV (af.out.trans (a2.mono za)) a0 K;clear L N a2 a0 K y0 y1 y2 r0 r1 r2 f0 f1 f2;rcases hf:find bz c.held with _|h
   .by_cases a1:(kN c.held:Int)=c.room
    .rw[hf]at l;simp only[Option.getD_none,Option.isSome_none,hval,qJe]at l;obtain⟨q,d⟩:=zB (W2.alloc (qIk qJe));have ad:q.heap.size=W2.heap.size+1:=by rw[<-d,qH6]
     have Y:(Builtin.len_ #[TD] 3 #[.map (yA b)]).run yK (W2.alloc (qp #[qX qm 0,qX qm 0,qY ⟨#[]⟩] TH))= .ok (qX qm (kN c.held)) (W2.alloc (qp #[qX qm 0,qX qm 0,qY ⟨#[]⟩] TH)):=(r.out.alloc _).len _;have au:(W2.alloc (qp #[qX qm 0,qX qm 0,qY ⟨#[]⟩] TH)).cell? ⟨w,0,yB⟩=yA (qX qm c.room):=qIe f.out.x0 _;have b3:(W2.alloc (qp #[qX qm 0,qX qm 0,qY ⟨#[]⟩] TH)).cell? ⟨w.heap.size,1,yB⟩=yA (qX qm c.clock):=qIe f.out.x1 _;have b0:(W2.alloc (qp #[qX qm 0,qX qm 0,qY ⟨#[]⟩] TH)).cell? ⟨w.heap.size,2,yB⟩=yA (qZ a (kN c.held) c6):=qIe f.out.x2 _;obtain⟨ax,b4,bw⟩:=yV d a1 hf;have R:=yT (yM w w q) (by rw[<-d];exact ao.out.alloc za _);have H:Bx q w.heap.size c.room c.clock a (kN c.held) c6:=by rw[<-d];exact⟨qIe f.out.x0 _,qIe f.out.x1 _,qIe f.out.x2 _⟩
     have o:Rz q (w.heap.size+1):=by rw[<-d];exact am.out.kept (Below.heap_alloc _ _ _ ay)
     have F:qIc q b (kN c.held) c.held:=by rw[<-d];exact r.out.alloc _
     obtain⟨bk,ar,bo,bj⟩:=yX (HS.out.src.below R.out rfl) H o F;have HO:=zH (zOm c a c6 q hm bk.out);unfold zC7 at HO;clear d hf H o F;go_wp2_with fail;rw[show W2.alloc (qp #[qX qm 0,qX qm 0,qY ⟨#[]⟩] TH)=q from ax.out];clear Y au b3 b0;refine HO.out.mono ?_;rintro e W4 ⟨a4,n4,k4,rfl,b1,X⟩;have Z:order c=(ord c.held).map Hd.blk:=by unfold order;rw[qPr aj.out]
     have br:n4=kN c.held:=by rw[<-b1.len,qQj,Z,qQj,qJr]
     have bn:0<kN c.held:=by have:=g.out.1;have:=b4.out;omega
     obtain⟨g4,bh,cn,bg,bf,ak,_⟩:=b1.at_ za;subst bh;subst br;obtain⟨m,V⟩:∃m,kN c.held=m+1:=⟨kN c.held-1,za⟩;have ae:kN (order c)=m+1:=by rw[Z,qQj,qJr,V]
     obtain⟨G,hG⟩:=zB (goes c bz);have an:G∈order c/\(order c)[m]? =yA G:=by
      have hne:order c≠[]:=by intro e;rw[e]at ae;simp at ae
      have e1:goes c bz=(order c).getLast hne:=by
       unfold goes;rw[qPr ⟨by rw[bw.out];rfl,b4.out⟩,List.getLastD_eq_getLast?,List.getLast?_eq_some_getLast hne];rfl
      rw[<-hG,e1];refine⟨List.getLast_mem hne,?_⟩;rw[List.getLast_eq_getElem,qPu za];simp[ae]
     have cm:W4.cell? ⟨g4,m,yB⟩=yA (qX qm G):=by rw[ak m za,qP3,an.2];rfl
     have bd:∃x∈c.held,x.blk=G:=by
      have h:=an.1;rw[Z]at h;obtain⟨x,hx,e⟩:=qQg.1 h;exact⟨x,(qJd c.held).subset hx,e⟩
     have ba: -9223372036854775808<=G/\G<=9223372036854775807:=by
      obtain⟨x,hx,e⟩:=bd;rw[<-e];exact HS.out.wf x hx
     obtain⟨W5,b8,ai,ag⟩:=(bj.out.below X (qPq _)).del G ba.1 ba.2 3;have cb:=r.out.lt;have cr:=X.size;have ab:=ag.grown;have av:∀k,k<q.heap.size->k≠b->W5.heap[k]? =q.heap[k]? :=fun k hk hne=>(ab.block k za (fun e=>by injection e with e;exact hne e)).trans (X.block k hk);have K:=b2.out;have ap:Bx W5 w.heap.size c.room c.clock a (kN c.held) c6:=by
      have hc:∀i,W5.cell? ⟨w.heap.size,i,yB⟩=q.cell? ⟨w.heap.size,i,yB⟩:=fun i=>qRg (av w.heap.size za za);exact⟨by rw[hc];exact ar.out.x0,by rw[hc];exact ar.out.x1,by rw[hc];exact ar.out.x2⟩
     have az:Rz W5 (w.heap.size+1):=bo.out.kept (av (w.heap.size+1) za za);have bb:yM w w W5:=R.out.trans ((X.mono za).trans (qI5 (B:=w.heap.size) ag za za));obtain⟨ck,cj,bu,cg,ci,HG,cd⟩:=yg ap az bb ai V hG X;have co:m<=63:=za
     have cs:=ab.size;have O:=zH (qJf W5 b (kN c.held) (drop G c.held) c a c6 bz c7 w.heap.size (w.heap.size+1) (w.heap.size+2) ai za (by have:=drop_length c.held g.out.2.2.2.2.2.2.1 G;omega) g.out.2.2.1 (by have:=g.out.2.2.2.1;unfold qIf at this⊢;omega) M c8 za za za ap az W5 (zH (yR _ _)));rw[V]at O;obtain⟨y0,y1,y2⟩:=ap;rw[V]at y2;have P:w.heap.size+1<W5.heap.size:=za
     clear az bb ai ab av ag Z b1 ak bg X bf an bd ae hG bn;rw[V];clear V;go_wp2_with (at_delete;refine del_eq rfl _ _ 416 3 rfl rfl rfl b8 ?_);clear b8;rw[HG.out]at E;refine O.out.mono ?_;rintro e bc ⟨a',n,k,rfl,p1,p2,p3,p4,p5⟩;obtain⟨r0,r1,r2,f0,f1,f2⟩:=p4.out;obtain⟨s,a6⟩:=yU p1.out.len (bu.out.trans (p2.out.mono za));go_wp2;obtain⟨z0,z1,z2⟩:=qIl (x:=qX qm c.room) (y:=qX qm (c.clock+1)) (z:=qZ a' n k) r0 r1 r2;refine qP5 (v:=qg #[qX qm G,.agg #[qX qm c.room,qX qm (c.clock+1),qZ a' n k],qX qm 0]) ?_ rfl ?_
     .exact qIh (t:=6) (p:=7) (u:=8) (ty:=TS) rfl _ _ _ ⟨w.heap.size+1,0,yB⟩ _ zh (qIm _ _ _ _ _ z0 z1 z2)
     .refine⟨a',k,?_,?_,?_,Below.qI4 a6.out za _ _ _⟩
      .rw[E.out];unfold zC7 after;simp only;rw[s.out]
      .rw[E.out];exact⟨(((p1.out.set P _).set P _).set P _).src,fun ha=>⟨s.out.trans (p1.out.nil ha).1,(p1.out.nil ha).2⟩,Wf.put (fun x hx=>a7.out.wf x (qI1.1 hx).1) (g.out.2.2.2.2.2.2.1.drop G) _ ca c8⟩
      .rw[E.out];exact Sx.own (((p1.out.set P _).set P _).set P _)
    .have a8:goes c bz= -1:=by unfold goes;rw[qPt (fun h=>a1 h.2)]
     have a9:drop (-1) c.held=c.held:=qI9 _ _ (fun x hx=>by have:=(g.out.2.2.2.2.2.1 x hx).1;omega);rw[a8,a9]at E;rw[hf]at l;simp only[Option.getD_none,Option.isSome_none,hval,qJe]at l;clear hf a8 a9;obtain⟨q,d⟩:=zB (W2.alloc (qIk qJe));have ad:q.heap.size=W2.heap.size+1:=by rw[<-d,qH6]
     have H:Bx q w.heap.size c.room c.clock a (kN c.held) c6:=by rw[<-d];exact⟨qIe f.out.x0 _,qIe f.out.x1 _,qIe f.out.x2 _⟩
     have o:Rz q (w.heap.size+1):=by rw[<-d];exact am.out.kept (Below.heap_alloc _ _ _ ay)
     have F:qIc q b (kN c.held) c.held:=by rw[<-d];exact r.out.alloc _
     have R:=yT (yM w w q) (by rw[<-d];exact ao.out.alloc za _);have aq:=r.out.lt;have K:=b2.out;have O:=zH (qJf q b (kN c.held) c.held c a c6 bz c7 w.heap.size (w.heap.size+1) (w.heap.size+2) F za za g.out.2.2.1 (by have:=g.out.2.2.2.1;unfold qIf at this⊢;omega) M c8 za za za H o q (zH (yR _ _)));obtain⟨y0,y1,y2⟩:=H;have j:w.heap.size+1<q.heap.size:=za
     clear o ad aq K;have Y:(Builtin.len_ #[TD] 3 #[.map (yA b)]).run yK (W2.alloc (qp #[qX qm 0,qX qm 0,qY ⟨#[]⟩] TH))= .ok (qX qm (kN c.held)) (W2.alloc (qp #[qX qm 0,qX qm 0,qY ⟨#[]⟩] TH)):=(r.out.alloc _).len _;have au:(W2.alloc (qp #[qX qm 0,qX qm 0,qY ⟨#[]⟩] TH)).cell? ⟨w,0,yB⟩=yA (qX qm c.room):=qIe f.out.x0 _;have b3:(W2.alloc (qp #[qX qm 0,qX qm 0,qY ⟨#[]⟩] TH)).cell? ⟨w.heap.size,1,yB⟩=yA (qX qm c.clock):=qIe f.out.x1 _;have b0:(W2.alloc (qp #[qX qm 0,qX qm 0,qY ⟨#[]⟩] TH)).cell? ⟨w.heap.size,2,yB⟩=yA (qZ a (kN c.held) c6):=qIe f.out.x2 _;have ax:=zH d;clear d;clear F;have b4:=a1;go_wp2_with fail;rw[show W2.alloc (qp #[qX qm 0,qX qm 0,qY ⟨#[]⟩] TH)=q from ax.out];clear Y au b3 b0;refine O.out.mono ?_;rintro e bc ⟨a',n,k,rfl,p1,p2,p3,p4,p5⟩;obtain⟨r0,r1,r2,f0,f1,f2⟩:=p4.out;obtain⟨s,a6⟩:=yU p1.out.len (R.out.trans (p2.out.mono za));go_wp2;obtain⟨z0,z1,z2⟩:=qIl (x:=qX qm c.room) (y:=qX qm (c.clock+1)) (z:=qZ a' n k) r0 r1 r2;refine qP5 (v:=qg #[qX qm (-1),.agg #[qX qm c.room,qX qm (c.clock+1),qZ a' n k],qX qm 0]) ?_ rfl ?_
     .exact qIh (t:=6) (p:=7) (u:=8) (ty:=TS) rfl _ _ _ ⟨w.heap.size+1,0,yB⟩ _ zh (qIm _ _ _ _ _ z0 z1 z2)
     .refine⟨a',k,?_,?_,?_,Below.qI4 a6.out za _ _ _⟩
      .rw[E.out];unfold zC7 after;simp only;rw[s.out]
      .rw[E.out];exact⟨(((p1.out.set j _).set j _).set j _).src,fun ha=>⟨s.out.trans (p1.out.nil ha).1,(p1.out.nil ha).2⟩,a7.out.wf.put g.out.2.2.2.2.2.2.1 _ ca c8⟩
      .rw[E.out];exact Sx.own (((p1.out.set j _).set j _).set j _)
   .have a8:goes c bz= -1:=by unfold goes;rw[hf];simp
    have a9:drop (-1) c.held=c.held:=qI9 _ _ (fun x hx=>by have:=(g.out.2.2.2.2.2.1 x hx).1;omega);rw[a8,a9]at E;rw[hf]at l;simp only[qQ5,Option.isSome_some,hval]at l;clear hf a8 a9;obtain⟨q,d⟩:=zB (W2.alloc (qIk h));have ad:q.heap.size=W2.heap.size+1:=by rw[<-d,qH6]
    have H:Bx q w.heap.size c.room c.clock a (kN c.held) c6:=by rw[<-d];exact⟨qIe f.out.x0 _,qIe f.out.x1 _,qIe f.out.x2 _⟩
    have o:Rz q (w.heap.size+1):=by rw[<-d];exact am.out.kept (Below.heap_alloc _ _ _ ay)
    have F:qIc q b (kN c.held) c.held:=by rw[<-d];exact r.out.alloc _
    have R:=yT (yM w w q) (by rw[<-d];exact ao.out.alloc za _);have aq:=r.out.lt;have K:=b2.out;have O:=zH (qJf q b (kN c.held) c.held c a c6 bz c7 w.heap.size (w.heap.size+1) (w.heap.size+2) F za za g.out.2.2.1 (by have:=g.out.2.2.2.1;unfold qIf at this⊢;omega) M c8 za za za H o q (zH (yR _ _)));obtain⟨y0,y1,y2⟩:=H;have j:w.heap.size+1<q.heap.size:=za
    clear o F ad aq K;go_wp2_with fail;refine O.out.mono ?_;rintro e bc ⟨a',n,k,rfl,p1,p2,p3,p4,p5⟩;obtain⟨r0,r1,r2,f0,f1,f2⟩:=p4.out;obtain⟨s,a6⟩:=yU p1.out.len (R.out.trans (p2.out.mono za));go_wp2;obtain⟨z0,z1,z2⟩:=qIl (x:=qX qm c.room) (y:=qX qm (c.clock+1)) (z:=qZ a' n k) r0 r1 r2;refine qP5 (v:=qg #[qX qm (-1),.agg #[qX qm c.room,qX qm (c.clock+1),qZ a' n k],qX qm 0]) ?_ rfl ?_
    .exact qIh (t:=6) (p:=7) (u:=8) (ty:=TS) rfl _ _ _ ⟨w.heap.size+1,0,yB⟩ _ zh (qIm _ _ _ _ _ z0 z1 z2)
    .refine⟨a',k,?_,?_,?_,Below.qI4 a6.out za _ _ _⟩
     .rw[E.out];unfold zC7 after;simp only;rw[s.out]
     .rw[E.out];exact⟨(((p1.out.set j _).set j _).set j _).src,fun ha=>⟨s.out.trans (p1.out.nil ha).1,(p1.out.nil ha).2⟩,a7.out.wf.put g.out.2.2.2.2.2.2.1 _ ca c8⟩
     .rw[E.out];exact Sx.own (((p1.out.set j _).set j _).set j _)
 .have E:=yT (keep c bz c7=(0,zero,1)) (by unfold keep;rw[qPt hr]);have a5:right c=yI\/bz<0:=by
   by_cases h:right c=yH
   .right;have:¬0<=bz:=fun h2=>hr ⟨h,h2⟩;omega
   .left;simpa using h
  clear hr;rcases a5 with a5|a5
  .rw[a5];clear a5;go_wp2;obtain⟨z0,z1,z2⟩:=qIl (x:=qX qm 0) (y:=qX qm 0) (z:=qZ yB 0 0) r0 r1 r2;refine qP5 (v:=qg #[qX qm 0,.agg #[qX qm 0,qX qm 0,qZ yB 0 0],qX qm 1]) ?_ rfl ?_
   .exact qIh (t:=6) (p:=7) (u:=8) (ty:=TS) rfl _ _ _ ⟨w.heap.size+1,0,yB⟩ _ zh (qIm _ _ _ _ _ z0 z1 z2)
   .exact⟨yB,0,by rw[E.out];rfl,by rw[E.out];exact ShW.zero _,by rw[E.out];exact Sx.zero _,Below.qI4 af.out za _ _ _⟩
  .rcases hrc:right c with _|_
   all_goals
    go_wp2;obtain⟨z0,z1,z2⟩:=qIl (x:=qX qm 0) (y:=qX qm 0) (z:=qZ yB 0 0) r0 r1 r2;refine qP5 (v:=qg #[qX qm 0,.agg #[qX qm 0,qX qm 0,qZ yB 0 0],qX qm 1]) ?_ rfl ?_
    .exact qIh (t:=6) (p:=7) (u:=8) (ty:=TS) rfl _ _ _ ⟨w.heap.size+1,0,yB⟩ _ zh (qIm _ _ _ _ _ z0 z1 z2)
    .exact⟨yB,0,by rw[E.out];rfl,by rw[E.out];exact ShW.zero _,by rw[E.out];exact Sx.zero _,Below.qI4 af.out za _ _ _⟩
end Cache
end Go.Proofs.YtppnakkaljbmbaaGreatDoor
