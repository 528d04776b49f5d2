/- Steps of a proof; no condition beyond what each states. -/
import Derived.Test.YtppnakkaljbmbaaGreatDoorZX00
import Derived.Test.YtppnakkaljbmbaaGreatDoorZX34
set_option linter.unusedVariables false
set_option linter.unusedSimpArgs false
set_option maxRecDepth 100000
set_option maxHeartbeats 8000000
open List renaming length->kG
open Go.Proofs.YtppnakkaljbmbaaGreatDoor.Kit renaming Src->yZ
open Go.Proofs.YtppnakkaljbmbaaGreatDoor.Cache renaming Sh->yx
open Go.Proofs.YtppnakkaljbmbaaGreatDoor.Bt renaming pk->xP
open Go.Proofs.YtppnakkaljbmbaaGreatDoor.Rle renaming Bld->xw
open Go.RowKit
open Go.Proofs.Tryz
open Go.Value renaming int->qV,string->qW,slice->qX,pointer->qY,tuple->qZ,bool->qc
open Go.IntKind renaming i64->qj
open Go.Obj renaming cells->qm
open Go.Ending renaming returned->qp
open Option renaming some->qw,none->qx
open Go renaming World->qy,Value->qz,TypeId->yA,Addr->yB,Calls->yC
open Bool renaming true->yD,false->yE
open Go.Proofs.Tryz renaming prog->yG
open Go.RowKit renaming Hid->yH,Below->yI
open List renaming range->yK
open Go.World renaming cell?->yM
open Go.RowKit.Below renaming refl->yN
open And renaming intro->yO
namespace Go.Proofs.YtppnakkaljbmbaaGreatDoor
namespace Sh
open Bt Zr Ch Sq St Tn Bk Sm
variable {w w':qy} {B:Nat}
abbrev qHs:ByteArray:=⟨#[111,107,10,115,97,121,32,54,49,54,50,10]⟩
theorem zU {b D:Nat} {l:List UInt8} {a:ByteArray} (h:xw w B b l) (hd:DK w D a) (d:Upd w w' D):xw w' B b l:=by
 refine h.kept (row:=qw D) ⟨d.below.os,d.below.tape,d.below.output,d.below.size,fun k g hne=>d.old k g (fun e=>hne (by rw[e]))⟩ ?_;intro r i;obtain rfl:=qPv i;refine⟨_,hd,fun c f e=> ?_,fun c f e=> ?_⟩
 ·injection e with _ e2 _
  exact absurd e2 z8
 ·injection e with _ e2 _
  exact absurd e2 z8
theorem HM.below (h:HM w) (b:yI B w w') (a:0<B):HM w':=by
 obtain⟨m,h⟩:=h;exact⟨m,by rw[b.cell (p:=⟨0,0,qx⟩) a];exact h⟩
theorem HM.lt (h:HM w):0<w.heap.size:=by
 obtain⟨m,h⟩:=h;exact qQk h
structure RI (B D b k:Nat) (w:qy):Prop where
 dk:DK w D (if k=0 then⟨#[]⟩else zC4)
 bl:xw w b b (if k=0 then[]else if k=1 then[111,107,10]else[111,107,10,115,97,121,32,54,49,54,50,10])
 ls:w.heap[B]? =qw (qm #[qW zE1,qW zE0,qW ⟨#[]⟩] zAk)
 hm:HM w
 le:b<=w.heap.size
theorem qCu (w:qy) (Y:HM w):yC yG 43 #[qW zPl] w fun e w'=>e=qp (qZ #[qW qHs,qV qj 0])/\yI w.heap.size w w':=by
 obtain⟨B,z⟩:=zB w.heap.size;obtain⟨y,j⟩:=zB (w.alloc (qm #[qW zE1,qW zE0,qW ⟨#[]⟩] zAk));obtain⟨D,N⟩:=zB y.heap.size;obtain⟨w2,i⟩:=zB (y.alloc (qm #[qW ⟨#[]⟩,qW ⟨#[]⟩,qW ⟨#[]⟩,qX qx 0 0,qV qj 0,qV qj 0,qX qx 0 0,qX qx 0 0,qV qj 0,qc yE] TDk));obtain⟨b,O⟩:=zB w2.heap.size;obtain⟨W,g⟩:=zB (w2.alloc (qm #[qY qx,qX qx 0 0] Rle.TB));have z1:D=B+1:=by rw[<-N,<-j,zA,z]
 have z2:b=B+2:=by rw[<-O,<-i,zA,N,z1]
 have z3:W.heap.size=B+3:=by rw[<-g,zA,O,z2]
 have b1:yI B w y:=by rw[<-j,<-z];exact(yN _ _).alloc (qPq _) _
 have X:yI D y w2:=by rw[<-i,<-N];exact(yN _ _).alloc (qPq _) _
 have R:yI b w2 W:=by rw[<-g,<-O];exact(yN _ _).alloc (qPq _) _
 have r:y.heap[B]? =qw (qm #[qW zE1,qW zE0,qW ⟨#[]⟩] zAk):=by rw[<-j,<-z];exact zAh w _
 have t:DK w2 D ⟨#[]⟩:=by rw[<-i,<-N];exact zAh y _
 have h0:0<B:=by rw[<-z];exact Y.lt
 have u:=yP (RI B D b 0 W) ⟨(R.block D za).trans t,by rw[<-g,<-O];exact Rle.Bld.new w2,(R.block B za).trans ((X.block B za).trans r),((Y.below b1 h0).below X za).below R za,za⟩;have BL:=yP (yI B w W) (b1.trans ((X.mono za).trans (R.mono za)));have G:=zH (zVv w Y);rw[z,j]at G;have x:=zBi r;have c2:=x.2.2.1;obtain⟨I,H,HD,HB,M⟩:=yT i g N O (yO z1 (yO z2 h0));rw[z];clear j i g z1 z2 z3 b1 X R r t h0 Y x z N O;go_enter func43,ntmps43;go_wp2_with fail;(with_reducible refine G.out.mono ?_);rintro e y ⟨rfl,rfl⟩;go_wp2_with fail;clear c2;rw[HD.out,show y.alloc (qm #[qW ⟨#[]⟩,qW ⟨#[]⟩,qW ⟨#[]⟩,qX qx 0 0,qV qj 0,qV qj 0,qX qx 0 0,qX qx 0 0,qV qj 0,qc yE] TDk)=w2 from I.out,show D+1=b from(by have:=M.out;omega),show w2.alloc (qm #[qY qx,qX qx 0 0] Rle.TB)=W from H.out];go_loopw [33] (fun iv wr=>∃k:Nat,k<=2/\iv=qV qj k/\yH (RI B D b k wr)/\yH (yI B w wr)) (fun iv _=>2-(intOf iv).toNat)
 case atStart=>exact⟨0,za,rfl,u,BL⟩
 case round=>
  clear u BL;obtain⟨k,hk,rfl,a,f⟩:=hrel;obtain⟨l0,l1,_⟩:=zBi a.out.ls;obtain rfl|rfl|rfl:k=0\/k=1\/k=2:=za
  ·rw[show((0:Nat):Int)=0 from rfl];go_wp2_with fail;(with_reducible refine(zWc wr).mono ?_);rintro e s ⟨rfl,rfl⟩;have l:=zH (qD7 D _ s a.out.dk a.out.hm);clear l0 l1;go_wp2_with fail;(with_reducible refine l.out.mono ?_);rintro e w4 ⟨rfl,V,q⟩;have d:=M.out;obtain⟨K4,Z,L4,M4,P,p⟩:=yU V (zU a.out.bl a.out.dk q) ((q.old B (by have:=zAd a.out.ls;omega) za).trans a.out.ls) (a.out.hm.below q.below za) (qP4 a.out.le q.below.size) (f.out.trans (q.below.mono za));have o:=zH (Rle.zB8 b b [] zM2 w4 Z.out z8 P.out);clear V q a f l d;go_wp2_with fail;(with_reducible refine o.out.mono ?_);rintro e w5 ⟨rfl,S,c,_,h⟩;have d:=M.out;have n:=yP (RI B D b 1 w5) ⟨(c.block D za).trans K4.out,S,(c.block B za).trans L4.out,M4.out.below c za,qP4 P.out h⟩;have m:=zH (p.out.trans (c.mono za));clear S c h d;go_wp2;go_roundw
   case rel=>exact⟨1,za,rfl,n,m⟩
   case measure=>simp only[intOf];omega
  ·rw[show((1:Nat):Int)=1 from rfl];go_wp2_with fail;(with_reducible refine(zY6 wr).mono ?_);rintro e s ⟨rfl,rfl⟩;have l:=zH (qG D s a.out.dk a.out.hm);clear l0 l1;go_wp2_with fail;(with_reducible refine l.out.mono ?_);rintro e w4 ⟨rfl,V,q⟩;have d:=M.out;obtain⟨K4,Z,L4,M4,P,p⟩:=yU V (zU a.out.bl a.out.dk q) ((q.old B (by have:=zAd a.out.ls;omega) za).trans a.out.ls) (a.out.hm.below q.below za) (qP4 a.out.le q.below.size) (f.out.trans (q.below.mono za));have o:=zH (Rle.zB8 b b [111,107,10] zJh w4 Z.out z8 P.out);clear V q a f l d;go_wp2_with fail;(with_reducible refine o.out.mono ?_);rintro e w5 ⟨rfl,S,c,_,h⟩;have d:=M.out;have n:=yP (RI B D b 2 w5) ⟨(c.block D za).trans K4.out,S,(c.block B za).trans L4.out,M4.out.below c za,qP4 P.out h⟩;have m:=zH (p.out.trans (c.mono za));clear S c h d;go_wp2;go_roundw
   case rel=>exact⟨2,za,rfl,n,m⟩
   case measure=>simp only[intOf];omega
  ·rw[show((2:Nat):Int)=2 from rfl];have L:=zH (Rle.zD0 b b [111,107,10,115,97,121,32,54,49,54,50,10] wr a.out.bl a.out.le);clear l0 l1 a;go_wp2_with fail;(with_reducible refine L.out.mono ?_);rintro e w7 ⟨rfl,F,_⟩;have K:=zH (f.out.trans (F.mono (by have:=M.out;omega)));clear F f;go_wp2;go_ret2;exact⟨rfl,K.out⟩
end Sh
namespace Al
open Hf Bt Zr Front Wg Sl Us St Tn
abbrev zDh:qz:=qV qj 1
theorem zM4 (w:qy) (u v:qz) (t:yA):yZ (w.alloc (qm #[u,v] t)) (qw ⟨w.heap.size,0,qx⟩) [u,v]:=by
 intro j x a
 match j,a with
 |0,a=>exact⟨_,_,rfl,by simp at a;subst a;simp⟩
 |1,a=>exact⟨_,_,rfl,by simp at a;subst a;simp⟩
theorem zXj (a:Option yB) (w:qy) (d:yZ w a [zDh,zDh]):yC yG 44 #[qX a 2 2,qV qj 9] w fun e w'=>∃G,e=qp (qZ #[qX (qw ⟨G,0,qx⟩) 2 2,qV qj 0])/\yI w.heap.size w w':=by
 have h:=zKj [1,1] a 2 2 9 w rfl za za d z8 z8 za za z8;exact h.mono fun e w' ⟨G,b,_,_,_,c⟩=>⟨G,b,c⟩
theorem qE5 (a:Option yB) (w:qy) (b:yZ w a [zDh]):yC yG 26 #[qX a 1 1,qV qj 2] w fun e w'=>e=qp (qZ #[.agg #[qW (pk (zAz yE [1])),qV qj 2],qV qj 0])/\yI w.heap.size w w':=
 zK2 [1] a 1 1 w rfl za b z8
theorem qF9 (a:Option yB) (w:qy) (b:yZ w a [zDh,zDh]):yC yG 27 #[qX a 2 2] w fun e w'=>e=qp (qZ #[.agg #[qW (pk (delta [1,1])),qV qj 7],qV qj 0])/\yI w.heap.size w w':=by
 have h:=zLj [1,1] a 2 2 w rfl za za b z8 z8;rw[show zAe (delta [1,1])= .agg #[qW (pk (delta [1,1])),qV qj 7]from by unfold zAe;rw[show(delta [1,1]).length=7 from z8];rfl]at h;exact h
theorem qD4 (a:Option yB) (w:qy) (b:yZ w a [zDh]):yC yG 38 #[qW ⟨#[97,98]⟩,qX a 1 1] w fun e w'=>e=qp (qZ #[qW ⟨#[98]⟩,qV qj 0])/\yI w.heap.size w w':=by
 have h:=Front.zLq ⟨#[97,98]⟩ z8 a 1 1 [1] rfl za w b;unfold Front.zSb at h;rw[show(⟨(Front.zIv [97,98] [1]).toArray⟩:ByteArray)=⟨#[98]⟩from z8,show Front.zC3 [97,98] [1]=0 from z8]at h;exact h
theorem qEm:zA7 [98,97]=[1,0]:=by
 simp[zA7,sorted,List.mergeSort,yK,List.range.loop,List.MergeSort.Internal.splitInTwo,List.merge];decide
theorem zY3 (w:qy):yC yG 39 #[qW ⟨#[98,97]⟩,qV qj 1] w fun e w'=>e=qp (qZ #[qW ⟨#[98,97]⟩,qV qj 0])/\yI w.heap.size w w':=by
 have h:=zHm ⟨#[98,97]⟩ 1 z8 z8 w;rw[show(⟨(unL ⟨#[98,97]⟩ 1).toArray⟩:ByteArray)=⟨#[98,97]⟩from by unfold unL;rw[show bl ⟨#[98,97]⟩=[98,97]from z8,qEm];decide]at h;exact h
theorem qEa (a:Option yB) (w:qy) (b:yZ w a [zDh,zDh]):yC yG 45 #[qX a 2 2] w fun e w'=>e=qp (qV qj 0)/\yI w.heap.size w w':=
 zCk [1,1] a 2 2 w rfl b ⟨z8,z8,z8,z8,z8⟩
theorem qGz (w:qy):yC yG 25 #[qW ⟨#[]⟩] w fun e w'=>e=qp (qV .u32 0)/\yI w.heap.size w w':=by
 have h:=Crc.zG7 ⟨#[]⟩ z8 w;rw[show Crc.U (Crc.sum (⟨#[]⟩:ByteArray).data.toList)=0 from by unfold Crc.U;rfl]at h;exact h
theorem qEf (w:qy):yC yG 20 #[qW ⟨#[98,97]⟩] w fun e w'=>e=qp (qW ⟨#[97,98]⟩)/\yI w.heap.size w w':=by
 have h:=zEc ⟨#[98,97]⟩ z8 w;rw[show zAj ⟨#[98,97]⟩=⟨#[97,98]⟩from z8]at h;exact h
theorem qA9 (w:qy):yC yG 46 #[qV qj 3] w fun e w'=>∃a c,e=qp (qX a 2 c)/\yI w.heap.size w w':=by
 have h:=zMt 3 za w;rw[show(digits 3).length=2 from by simp[digits]]at h;exact h.mono fun e w' ⟨a,c,b,_,d⟩=>⟨a,c,b,d⟩
theorem qC5 (w:qy):yC yG 47 #[qW ⟨#[97,98]⟩] w fun e w'=>∃G c,e=qp (qX (qw ⟨G,0,qx⟩) 2 c)/\yI w.heap.size w w':=
 (zOm ⟨#[97,98]⟩ 2 rfl za za w).mono fun e w' ⟨a,c,b,_,d⟩=>⟨a,c,b,d⟩
end Al
namespace Al
open Bt Zr Front Ch Sl Sh
variable {w w1 w2:qy} {B:Nat}
theorem al2 {o:Obj} (h:yI B w w1/\B<=w1.heap.size) (a:yI (w1.alloc o).heap.size (w1.alloc o) w2):yI B w w2/\B<=w2.heap.size:=by
 have b:=a.size;rw[zA]at b;exact⟨h.1.trans (((yN _ _).alloc h.2 o).trans (a.mono (by rw[zA];omega))),za⟩
theorem al1 (h:yI B w w1/\B<=w1.heap.size) (a:yI w1.heap.size w1 w2):yI B w w2/\B<=w2.heap.size:=
 ⟨h.1.trans (a.mono h.2),qP4 h.2 a.size⟩
theorem zPf (w:qy) (V:HM w):yC yG 7 #[] w fun e w'=>e=qp (qc yD)/\yI w.heap.size w w':=by
 obtain⟨B,r⟩:=zB w.heap.size;obtain⟨d,HB⟩:=yQ (qCu w V) r;rw[r]at d⊢;clear V r;go_enter func7,ntmps7;go_wp2_with fail;(with_reducible refine d.out.mono ?_);rintro e w1 ⟨rfl,g⟩;have x:=yP (yI B w w1/\B<=w1.heap.size) ⟨g,by have:=g.size;have:=HB.out;omega⟩;clear g d;go_wp2_with fail;(with_reducible refine(zXj _ _ (zM4 w1 zDh zDh 3)).mono ?_);rintro e w2 ⟨G,rfl,k⟩;have y:=zH (al2 x.out k);clear k x;go_wp2_with fail;(with_reducible refine(qE5 _ _ (Kit.zAs w2 zDh 3)).mono ?_);rintro e s ⟨rfl,n⟩;have z:=zH (al2 y.out n);clear n y;go_wp2_with fail;have p:=zM4 (s.alloc (qm #[qW (xP (zAz yE [1])),qV qj 2] 51)) zDh zDh 3;rw[zA]at p;(with_reducible refine(qF9 _ _ p).mono ?_);rintro e t ⟨rfl,f⟩;obtain⟨P,F⟩:=yQ (zAb (zAb (zAh s (qm #[qW (xP (zAz yE [1])),qV qj 2] 51)) ((yN _ _).alloc (qPq _) _)) f) (al2 (al1 z.out ((yN _ _).alloc (qPq _) _)) f);clear f z p;go_wp2_with fail;have q:=Kit.zAs (t.alloc (qm #[qW (xP (delta [1,1])),qV qj 7] 51)) zDh 3;rw[zA]at q;(with_reducible refine(qD4 _ _ q).mono ?_);rintro e w5 ⟨rfl,b⟩;obtain⟨R,N,H⟩:=yR (zAb (zAb (zAh t (qm #[qW (xP (delta [1,1])),qV qj 7] 51)) ((yN _ _).alloc (qPq _) _)) b) (zAb (zAb (zAb P.out ((yN _ _).alloc (qPq _) (qm #[qW (xP (delta [1,1])),qV qj 7] 51))) ((yN _ _).alloc (qPq _) _)) b) (al2 (al1 F.out ((yN _ _).alloc (qPq _) _)) b);clear b F q P;go_wp2_with fail;(with_reducible refine(zY3 _).mono ?_);rintro e u ⟨rfl,a⟩;have S:=zAb R.out a;have O:=zAb N.out a;have I:=zH (al1 H.out a);have W:u.cell? ⟨t.heap.size,1,qx⟩=qw (qV qj 7):=by simp[yM,S]
 have c2:u.cell? ⟨s.heap.size,1,qx⟩=qw (qV qj 2):=by simp[yM,O]
 clear a H R N S O;go_wp2_with fail;(with_reducible refine(qEa _ _ (zM4 u zDh zDh 3)).mono ?_);rintro e w7 ⟨rfl,l⟩;have K:=zH (al2 I.out l);clear l I W c2;go_wp2_with fail;(with_reducible refine(qGz _).mono ?_);rintro e w8 ⟨rfl,m⟩;have L:=zH (al1 K.out m);clear m K;go_wp2_with fail;(with_reducible refine(qEf _).mono ?_);rintro e w9 ⟨rfl,j⟩;have M:=zH (al1 L.out j);clear j L;go_wp2_with fail;(with_reducible refine(qA9 _).mono ?_);rintro e a1 ⟨X,Z,rfl,h⟩;have i:=zH (al1 M.out h);clear h M;go_wp2_with fail;(with_reducible refine(qC5 _).mono ?_);rintro e a2 ⟨Y,a0,rfl,c⟩;have o:=zH (al1 i.out c);clear c i;go_wp2;go_ret;exact⟨rfl,o.out.1⟩
end Al
namespace To
open Hf Bt Zr Ch St Tn Bk Sm Ix2 Sd Sk
variable {n:Nat}
structure QW (lev:Nat) (ps:List T) (n X:Nat) (w0 w:qy) (B D:Nat) (i:Nat) (d:DV):Prop where
 blk:w.heap[D]? =qw (qm d.cl TDk)
 dk:Dk lev ps n X w d [free,free]
 ea:d.a=zCt lev ps
 er:d.sh.room=64
 wo:Wo n d.sh d.dec
 ck:d.sh.clock<=3000*(i:Int)
 bl:yI B w0 w
 hd:B<=D
theorem free_at {r:Nat} (h:r<2):([free,free]:List Rr)[r]? =qw free:=by
 obtain rfl|rfl:r=0\/r=1:=za
 ·rfl
 ·rfl
theorem qO {g:Nat->ByteArray} {c:yx} (h:Cache.SI g n c):kG c.held<=n:=by
 have:=Cache.qJq c.held 0 n h.rgt.2.2.2.2.2.2.1 (fun x a=>by
  obtain⟨k,b,d,_⟩:=h.held x a;omega) za
 omega
theorem twice {h:List T} {c0 c1 c2:yx} {c d e:Nat} {a b:Int} (f:RF h n c0 c a b c1 d) (g:RF h n c1 d a b c2 e) (wo:Wo n c0 c) (m:c0.clock<=100000) (o:c<=64) (q:kG c1.held<=64):e=d/\Wo n c2 e/\c2.clock<=c0.clock+2002/\c2.room=c0.room:=by
 obtain⟨u,i,w,l,_⟩:=f.wo wo za za;have p:=i.cnt;obtain⟨r,j,s,t,k⟩:=g.wo i za za;exact⟨k l,j,za,g.room.trans f.room⟩
theorem qN4 {P:Program} {ρ:Operand->qz} {o:Oper} {t u:yA} {x y:Operand} {m:Int} (a:o.op= .binOp .eql t x y u) (b:ρ x=qV qj m) (c:ρ y=qV qj m) (w:qy):(execOp ρ o).run P w= .ok (.value (qc yD)) w:=by
 unfold execOp;simp[a,b,c,go_sem]
theorem qOw (t:ByteArray) (c:Int) (w:qy):(binOp .neq TRp (.agg #[qW t,qV qj c]) (.agg #[qW t,qV qj c])).run yG w= .ok (qc yE) w:=by
 simp[go_sem]
theorem qMg (s:ByteArray) (a:Option yB) (len ck:Nat) (g:Nat->Int×Int) (lv:Int) (b:Option yB) (bn bc:Nat) (f:Nat->Int×Int) (w:qy) (hs:s.size<=maxLen) (h:Kit.zEq qj w a len ck g) (v0: -9223372036854775808<=lv) (v1:lv<=9223372036854775807) (h3:Kit.zEq qj w b bn bc f) (hm:Sh.HM w):
  yC yG 6 #[qW s,qX a len ck,qV qj lv,qX b bn bc] w fun e w'=>e=qp (qc yD)/\yI w.heap.size w w':=by
 obtain⟨k,hk,bq⟩:=qJ0 lv 9 v0 v1 za za (V:=9) rfl;obtain⟨B,hB⟩:=zB w.heap.size;obtain⟨ao,R,bf⟩:=yR (Al.zPf w hm) (fun w' d8=>zY7 s a len ck g w' hs (qJ1 h d8)) bq;obtain⟨_,c8,az⟩:=h3;obtain⟨H3,HB⟩:=yQ az hB;rw[hB]at ao R⊢;unfold maxLen at c8;clear hm hB h az hs bq;go_enter func6,ntmps6;go_wp2_with fail;(with_reducible refine ao.out.mono ?_);rintro e w1 ⟨rfl,ay⟩;have B1:=yP (yI B w w1/\B<=w1.heap.size) ⟨ay,by have:=ay.size;have:=HB.out;omega⟩;clear ay ao;go_wp2_with fail;(with_reducible refine(R.out _ B1.out.1).mono ?_);rintro e w2 ⟨u,rfl,hu,ai⟩;have B2:=yP (yI B w w2/\B<=w2.heap.size) ⟨B1.out.1.trans (ai.mono B1.out.2),by have:=ai.size;have:=B1.out.2;omega⟩;obtain⟨n,l⟩:=qOv (1+k) za za u.data.toList (by simpa using(by omega:u.size<=500));have Z:=fun w'=>zZ5 (1+k) u u.data.toList rfl (by simpa using(by omega:u.size<=500)) za za w';obtain⟨ps,bh⟩:=zB (pcs (40*(1+k)) u.data.toList);rw[bh]at l Z;have W:=l.A.size;have O:=fun w'=>qNc (1+k) n u.size ps l.A l.P W 64 za za w';rw[show((64:Nat):Int)=64 from rfl]at O;have hX:kG ps.flatten=u.size:=by rw[l.flat];simp
 obtain⟨X,bd⟩:=zB u.size;obtain⟨F,av⟩:=zB (1+k);have cj:(1:Int)+(k:Int)=(F:Int):=za
 rw[av]at Z O l W;rw[bd]at O hX;obtain⟨t,ht⟩:=zB (zCt F ps);rw[ht]at Z O;obtain⟨bk,bj,aa,af⟩:=yS Z O (yO l (yO hX (yO W ht))) (fun(d:DV) (r o m:Nat) (hr:r<2) (ca cb:Int) (hv:Cov ps n X o m ca cb) (ho:o<=100000000) (d7:m<1048576) (d6:d.a=zCt F ps) (w':qy) (a2:Dk F ps n X w' d [free,free])=>
  qL4 F n X ps l.P hX l.A W d [free,free] r o m ca cb (free_at hr) hv ho d7 d6 w' a2)
 clear ai R hu bh W l hX bd av ht Z O B1;go_wp2_with fail;(with_reducible refine(bf.out _).mono ?_);rintro e w3 ⟨rfl,rfl⟩;go_wp2_with fail;(with_reducible refine(bk.out _).mono ?_);rintro e w4 ⟨rfl,ax⟩;have B4:=yP (yI B w w4/\B<=w4.heap.size) ⟨B2.out.1.trans (ax.mono B2.out.2),by have:=ax.size;have:=B2.out.2;omega⟩;clear ax B2 bk bf;go_wp2_with fail;(with_reducible refine(bj.out _).mono ?_);rintro e w5 ⟨d,rfl,a2,e1,e2,e3,e4,aq⟩;obtain⟨D,hD⟩:=zB w5.heap.size;have am:B<=w5.heap.size:=by have:=aq.size;have:=B4.out.2;omega
 have Q0:=yP (QW F ps n X w (w5.alloc (qm d.cl TDk)) B D 0 d) ⟨by rw[<-hD];exact zAh _ _,a2.below ((yN _ _).alloc (qPq _) _),by rw[e1];exact aa.out.2.2.2.symm,by rw[e2],⟨by rw[e2];have:=aa.out.1.few;show(n:Int)<=64;omega,by rw[e2,e3];rfl⟩,by rw[e2];show(0:Int)<=_;omega,(B4.out.1.trans (aq.mono B4.out.2)).alloc am _,by rw[<-hD];exact am⟩;have HD:=zH hD;clear a2 e1 e2 e3 e4 aq am hD bj B4 cj;unfold DV.v DV.cl;go_wp2;rw[HD.out,show w5.alloc (qm #[qW d.a,qX d.ip d.n d.ic,qV qj d.sh.room,qV qj d.sh.clock,qX d.sa (kG d.sh.held) d.sk,qX d.rp d.m d.rc,qV qj (d.dec:Int)] TDk)=w5.alloc (qm d.cl TDk)from rfl];obtain⟨w6,b2⟩:=zB (w5.alloc (qm d.cl TDk));rw[b2]at Q0⊢;clear b2 HD;go_loopw [15] (fun iv wr=>∃(i:Nat) (d:DV),i<=bn/\i<=20/\iv=qV qj (i:Int)/\yH (QW F ps n X w wr B D i d)) (fun iv _=>20-(intOf iv).toNat)
 case atStart=>exact⟨0,d,qQq _,za,rfl,Q0⟩
 case round=>
  obtain⟨i,d,db,d9,rfl,hQ⟩:=hrel;have Q1:=zH hQ.out;have Y:=hQ.out.blk;unfold DV.cl at Y;clear hQ;by_cases b7:i<bn/\i<20
  ·obtain⟨a3,dc⟩:=b7;obtain⟨b0,bg,rfl,h0,h1,bi,b4⟩:=H3.out i a3;obtain⟨l0,u0⟩:=bounds_i64 bi;obtain⟨l1,u1⟩:=bounds_i64 b4;have r0:=(Q1.out.bl.cell (p:=⟨b0,bg+i*2,qx⟩) (by have:=HB.out;have:=qQk h0;omega)).trans h0;have r1:=(Q1.out.bl.cell (p:=⟨b0,bg+i*2+1,qx⟩) (by have:=HB.out;have:=qQk h1;omega)).trans h1;obtain⟨x0,b6⟩:=zB ((f i).1);obtain⟨x1,bo⟩:=zB ((f i).2);rw[b6]at l0 u0 r0;rw[bo]at l1 u1 r1;obtain⟨o,ho,ba⟩:=qJ0 x0 500 l0 u0 za za (V:=500) rfl;obtain⟨m,hm,bb⟩:=qJ0 x1 300 l1 u1 za za (V:=300) rfl;obtain⟨br,b5⟩:=yQ ba bb;obtain⟨ca,cb,hv⟩:=qOb F n ps aa.out.1.P aa.out.2.1 o m;obtain⟨p0,cy⟩:=zB (i%2);obtain⟨p1,cv⟩:=zB ((i+1)%2);have cn:Int.tmod (i:Int) 2=(p0:Int):=by rw[qSd za];omega
   have ab:Int.tmod ((i:Int)+1) 2=(p1:Int):=by rw[qSd za];omega
   have c7:p0<2:=za
   have bx:p1<2:=za
   obtain⟨HV,a9⟩:=yQ hv (af.out d p0 o m c7 ca cb hv za za Q1.out.ea wr Q1.out.dk);obtain⟨tx,ad⟩:=zB (Rle.bs ((ps.flatten.drop o).take m));obtain⟨cc,ap⟩:∃cc:Int,(if X<o+m then 8 else 0)=cc:=⟨_,rfl⟩;rw[ad,ap]at a9;unfold DV.v DV.cl at a9;obtain⟨R,d3⟩:=yQ (yO ad ap) ab;obtain⟨y0,y1,y2,y3,y4,y5,y6⟩:=qH7 Y;clear h0 h1 bi b4 b6 bo ba bb hv cy cv ad ap Y ab;go_wp2_with fail;(with_reducible refine(br.out _).mono ?_);rintro e w7 ⟨rfl,rfl⟩;go_wp2_with fail;(with_reducible refine(b5.out _).mono ?_);rintro e w8 ⟨rfl,rfl⟩;go_wp2_with fail;clear y0 y1 y2 y3 y4 y5 y6 r0 r1 cn;(with_reducible refine a9.out.mono ?_);rintro e w9 ⟨z,rfl,a0,ar,ag,d5,a7⟩;obtain⟨M,I⟩:=zB ((w9.alloc (qm #[qW tx,qV qj cc] TRp)).alloc (qm #[qW z.a,qX z.ip z.n z.ic,qV qj z.sh.room,qV qj z.sh.clock,qX z.sa (kG z.sh.held) z.sk,qX z.rp z.m z.rc,qV qj (z.dec:Int)] TDk));obtain⟨K1,a6⟩:=zB w9.heap.size;have L:yI w9.heap.size w9 M:=by rw[<-I];exact((yN _ _).alloc (qPq _) _).alloc (by rw[zA];omega) _
   have ci:=zAd Q1.out.blk;have d4:=a7.size;have d0:=zH (hkeep (hkeep Q1.out.blk a7) L);have cq:=yP (M.heap[K1]? =qw (qm #[qW tx,qV qj cc] TRp)) (by rw[<-I,<-a6];exact(Lib.alloc_old _ _ _ (by rw[zA];omega)).trans (zAh w9 _));have ct:=yP (M.heap[K1+1]? =qw (qm #[qW z.a,qX z.ip z.n z.ic,qV qj z.sh.room,qV qj z.sh.clock,qX z.sa (kG z.sh.held) z.sk,qX z.rp z.m z.rc,qV qj (z.dec:Int)] TDk)) (by rw[<-I,<-a6,<-zA w9 (qm #[qW tx,qV qj cc] TRp)];exact zAh _ _);have ae:=yP (yI B w M/\B<=M.heap.size) ⟨(Q1.out.bl.trans (a7.mono (by have:=Q1.out.hd;omega))).trans (L.mono (by have:=Q1.out.hd;omega)),by have:=L.size;have:=Q1.out.hd;omega⟩;have a8:=zH (af.out z p1 o m bx ca cb HV.out za za (ag.trans Q1.out.ea) M (a0.below L));rw[R.out.1,R.out.2]at a8;have a5:=zH (yO ar (yO (ag.trans Q1.out.ea) a0.rgt));unfold DV.v DV.cl at a8;obtain⟨bu,ce⟩:=yQ I a6;have ab:=d3.out;clear a0 ar ag d5 a7 L I a6 ci d4 a9 br b5;go_wp2_with fail;rw[ce.out,show(w9.alloc (qm #[qW tx,qV qj cc] TRp)).alloc (qm #[qW z.a,qX z.ip z.n z.ic,qV qj z.sh.room,qV qj z.sh.clock,qX z.sa (kG z.sh.held) z.sk,qX z.rp z.m z.rc,qV qj (z.dec:Int)] TDk)=M from bu.out];(with_reducible refine a8.out.mono ?_);rintro e K ⟨q,rfl,S,ak,b8,cu,G⟩;have H:yI K.heap.size K ((K.alloc (qm #[qW tx,qV qj cc] TRp)).alloc (qm #[qW q.a,qX q.ip q.n q.ic,qV qj q.sh.room,qV qj q.sh.clock,qX q.sa (kG q.sh.held) q.sk,qX q.rp q.m q.rc,qV qj (q.dec:Int)] TDk)):=((yN _ _).alloc (qPq _) _).alloc (by rw[zA];omega) _;have a1:=hkeep (hkeep d0.out G) H;have j:=a1;unfold DV.cl at j;have ah:=hkeep (hkeep cq.out G) H;have aj:=hkeep (hkeep ct.out G) H;have cz:=qO (c:=q.sh) (g:=gP ps) (n:=n) ⟨S.rgt,S.held⟩;have a3:kG z.sh.held<=64:=by have h5:=a5.out.2.2.2.2.2.2.1;have h6:=a5.out.2.2.2.1;omega
   have cg:=Q1.out.ck;have b1:d.dec<=64:=by have h5:=Q1.out.dk.rgt.2.2.2.2.1;have h6:=Q1.out.dk.rgt.2.1;have:=Q1.out.wo.cnt;omega
   obtain⟨t1,t2,t3,t4⟩:=twice a5.out.1 ak Q1.out.wo za b1 a3;have cr:((q.dec:Int)!=(z.dec:Int))=yE:=by rw[t1];simp
   have cp:(q.dec:Int)<=(d.n:Int):=by rw[Q1.out.dk.en];have:=t2.cnt;omega
   have cd:=qOw tx cc;obtain⟨an,N⟩:=zB (((K.alloc (qm #[qW tx,qV qj cc] TRp)).alloc (qm #[qW q.a,qX q.ip q.n q.ic,qV qj q.sh.room,qV qj q.sh.clock,qX q.sa (kG q.sh.held) q.sk,qX q.rp q.m q.rc,qV qj (q.dec:Int)] TDk)).setCells D 0 [qW q.a,qX q.ip q.n q.ic,qV qj q.sh.room,qV qj q.sh.clock,qX q.sa (kG q.sh.held) q.sk,qX q.rp q.m q.rc,qV qj (q.dec:Int)]);have h7:=Kit.zDl [qW q.a,qX q.ip q.n q.ic,qV qj q.sh.room,qV qj q.sh.clock,qX q.sa (kG q.sh.held) q.sk,qX q.rp q.m q.rc,qV qj (q.dec:Int)] ((K.alloc (qm #[qW tx,qV qj cc] TRp)).alloc (qm #[qW q.a,qX q.ip q.n q.ic,qV qj q.sh.room,qV qj q.sh.clock,qX q.sa (kG q.sh.held) q.sk,qX q.rp q.m q.rc,qV qj (q.dec:Int)] TDk)) D 0 _ _ _ j;rw[show Kit.spl #[qW d.a,qX d.ip d.n d.ic,qV qj d.sh.room,qV qj d.sh.clock,qX d.sa (kG d.sh.held) d.sk,qX d.rp d.m d.rc,qV qj (d.dec:Int)] 0 [qW q.a,qX q.ip q.n q.ic,qV qj q.sh.room,qV qj q.sh.clock,qX q.sa (kG q.sh.held) q.sk,qX q.rp q.m q.rc,qV qj (q.dec:Int)]= #[qW q.a,qX q.ip q.n q.ic,qV qj q.sh.room,qV qj q.sh.clock,qX q.sa (kG q.sh.held) q.sk,qX q.rp q.m q.rc,qV qj (q.dec:Int)]by simp[Kit.spl],N]at h7;have au:∀k,k≠D->an.heap[k]? =((K.alloc (qm #[qW tx,qV qj cc] TRp)).alloc (qm #[qW q.a,qX q.ip q.n q.ic,qV qj q.sh.room,qV qj q.sh.clock,qX q.sa (kG q.sh.held) q.sk,qX q.rp q.m q.rc,qV qj (q.dec:Int)] TDk)).heap[k]? :=fun k hk=>by rw[<-N];exact Kit.zAo _ _ D 0 k hk
   have cm:=yP (QW F ps n X w an B D (i+1) q) ⟨h7,(S.below H).far j z8 z8 z8 au,b8.trans a5.out.2.1,t4.trans Q1.out.er,t2,za,by
    rw[<-N];exact((ae.out.1.trans (G.mono ae.out.2)).trans (H.mono (by have:=G.size;have:=ae.out.2;omega))).trans (Kit.below_setCells _ D 0 (yN _ _) Q1.out.hd),Q1.out.hd⟩
   obtain⟨y0,y1,y2,y3,y4,y5,y6⟩:=qH7 j;obtain⟨co,cw,cf,cs⟩:=qIa ah;have c6:=(qH7 aj).2.2.2.2.2.2;have f0:=qH9 j 0;have f1:=qH9 j 1;have f2:=qH9 j 2;have f3:=qH9 j 3;have f4:=qH9 j 4;have f5:=qH9 j 5;have f6:=qH9 j 6;have bz:=zH N;clear S ak b8 cu G H a1 j ah aj cz a3 cg b1 t1 t2 t3 t4 N h7 au ab a8;go_wp2;rw[show((((((((K.alloc (qm #[qW tx,qV qj cc] TRp)).alloc (qm #[qW q.a,qX q.ip q.n q.ic,qV qj q.sh.room,qV qj q.sh.clock,qX q.sa (kG q.sh.held) q.sk,qX q.rp q.m q.rc,qV qj (q.dec:Int)] TDk)).setCell ⟨D,0,qx⟩ (qW q.a)).setCell ⟨D,1,qx⟩ (qX q.ip q.n q.ic)).setCell ⟨D,2,qx⟩ (qV qj q.sh.room)).setCell ⟨D,3,qx⟩ (qV qj q.sh.clock)).setCell ⟨D,4,qx⟩ (qX q.sa (kG q.sh.held) q.sk)).setCell ⟨D,5,qx⟩ (qX q.rp q.m q.rc)).setCell ⟨D,6,qx⟩ (qV qj (q.dec:Int))=an from bz.out];clear y0 y1 y2 y3 y4 y5 y6 co cw cf cs c6 f0 f1 f2 f3 f4 f5 f6 cr cp cd;go_roundw
   case rel=>exact⟨i+1,q,za,za,by go_num,cm⟩
   case measure=>simp only[intOf];omega
  ·have j:=Y;have DB:=yP (wr.drew.heap[D]? =qw (qm #[qW d.a,qX d.ip d.n d.ic,qV qj d.sh.room,qV qj d.sh.clock,qX d.sa (kG d.sh.held) d.sk,qX d.rp d.m d.rc,qV qj (d.dec:Int)] TDk)) j;obtain⟨LS,LD,HO⟩:=yR (fun(W9:qy) (h:W9.heap[D]? =qw (qm #[qW d.a,qX d.ip d.n d.ic,qV qj d.sh.room,qV qj d.sh.clock,qX d.sa (kG d.sh.held) d.sk,qX d.rp d.m d.rc,qV qj (d.dec:Int)] TDk))=>qK9 h) (fun(W9:qy) (h:W9.heap[D]? =qw (qm #[qW d.a,qX d.ip d.n d.ic,qV qj d.sh.room,qV qj d.sh.clock,qX d.sa (kG d.sh.held) d.sk,qX d.rp d.m d.rc,qV qj (d.dec:Int)] TDk))=>Kit.zAg (P:=yG) (t:=3) (qH7 h).2.2.2.2.2.2 zf zf) (Cache.zOm d.sh d.sa d.sk wr.drew (by have h5:=Q1.out.dk.rgt.2.2.2.2.1;have h6:=Q1.out.dk.rgt.2.1;omega) (Q1.out.dk.below (yN _ _).drew).shw.src);unfold Cache.zC7 at HO;have b9:=Cache.qKq Q1.out.dk.rgt;have b3:=Q1.out.wo.cnt;have HL:=yP (kG (Cache.order d.sh)=d.dec) (b9.trans b3);have bp:=yP (yI B w wr/\B<=wr.heap.size) ⟨Q1.out.bl,qP6 (Nat.lt_of_le_of_lt Q1.out.hd (zAd j))⟩;have hg:¬i<bn\/(i<bn/\¬i<20):=za
   clear j Y b9 b3 b7 Q1 af;rcases hg with hg|⟨hg,da⟩
   all_goals
    go_wp2;refine zS [] (fun W9=>W9.heap[D]? =qw (qm #[qW d.a,qX d.ip d.n d.ic,qV qj d.sh.room,qV qj d.sh.clock,qX d.sa (kG d.sh.held) d.sk,qX d.rp d.m d.rc,qV qj (d.dec:Int)] TDk)) [0,1,2,6,10,18,2,66,162,258,1023] 11<|zp [0,1]<|zk 117 (qc yD)<|zk 118 (qc yD)<|zn<|zu 6 123 (zP D 6)<|zy 7 124 (qV qj (d.dec:Int)) (fun w hS=>zl 3 123 (LD.out w hS)) DB.out<|zp [2,3]<|zk 119 (zP D 2)<|zt 120 (.agg #[qV qj d.sh.room,qV qj d.sh.clock,qX d.sa (kG d.sh.held) d.sk]) ((fun w hS=>zl 36 119 (LS.out w hS)) _ (DB.out))<|zn<|zx 4 121 42 #[.agg #[qV qj d.sh.room,qV qj d.sh.clock,qX d.sa (kG d.sh.held) d.sk]] HO.out<| ?_
    rintro e dd ⟨a4,n4,k4,rfl,cx,ac⟩;obtain rfl:n4=d.dec:=by have:=cx.len;rw[qQi,HL.out]at this;exact this.symm
    have bw:=hkeep DB.out ac;refine⟨_,rfl,.inr (.inr bw),?_⟩;refine zp [5,8,9,10]<|zk 122 (qV qj (d.dec:Int))<|zt 125 (qc yD) (qN4 (t:=3) (u:=3) (m:=(d.dec:Int)) (x:= .tmp 122) (y:= .tmp 124) zf zf zf _)<|zk 126 (qc yD)<|zk 8 (qc yD)<|zn<|zE<| ?_
    simp only[zP,zI,Act.put,qPz,qPy,qP0];go_wp2;go_ret;exact⟨rfl,bp.out.1.drew.trans (ac.mono bp.out.2)⟩
end To
end Go.Proofs.YtppnakkaljbmbaaGreatDoor
