/- Steps of a proof; no condition beyond what each states. -/
import Derived.Test.YtppnakkaljbmbaaGreatDoorZX00
import Derived.Test.YtppnakkaljbmbaaGreatDoorZX32
set_option linter.unusedVariables false
set_option linter.unusedSimpArgs false
set_option maxRecDepth 100000
set_option maxHeartbeats 8000000
open List renaming length->kG
open Go.Proofs.YtppnakkaljbmbaaGreatDoor.Kit renaming zAr->xA,zAq->xL
open Go.Proofs.YtppnakkaljbmbaaGreatDoor.Rle renaming Bld->xw
open Go.RowKit
open Go.Proofs.Tryz
open Go.Value renaming int->qV,string->qW,slice->qX,pointer->qY,tuple->qZ,bool->qc,iface->qh
open Go.IntKind renaming i64->qj,u8->ql
open Go.Obj renaming cells->qm
open Go.Ending renaming returned->qp
open Option renaming some->qw,none->qx
open Go renaming World->qy,Value->qz,TypeId->yA,Addr->yB,Calls->yC,undef->yJ
open Bool renaming true->yD,false->yE
open Go.Proofs.Tryz renaming prog->yG
open Go.RowKit renaming Hid->yH,Below->yI
open Go.World renaming cell?->yM
open Go.RowKit.Below renaming refl->yN
open And renaming intro->yO
namespace Go.Proofs.YtppnakkaljbmbaaGreatDoor
namespace To
open Bt Tn Bk Sm Ix2 Sk
theorem qJ0 (c:Int) (n:Nat) (m: -9223372036854775808<=c) (o:c<=9223372036854775807) (h:0<n) (p:n<=100000) {V:Int} (i:(n:Int)=V):
  ∃k:Nat,k<n/\∀w,yC yG 10 #[qV qj c,qV qj V] w fun e w'=>e=qp (qV qj (k:Int))/\w'=w:=by
 obtain⟨d,hd⟩:∃d:Nat,(if c<0 then-(c+1)else c)=(d:Int):=⟨(if c<0 then-(c+1)else c).toNat,by split<;>omega⟩;have g:(d:Int).tmod (n:Int)=((d%n:Nat):Int):=by rw[qSd za];rfl
 obtain⟨k,a⟩:=zB (d%n);have b:k<n:=by rw[<-a];exact qRd _ h
 rw[a]at g;rw[i]at g;refine⟨k,b,fun w=> ?_⟩;by_cases f:c<0
 ·rw[qPr f]at hd;have j:IntKind.i64.wrap (c+1)=c+1:=qQb _ ⟨za,za⟩;have l:IntKind.i64.wrap (-(c+1))= -(c+1):=qQb _ ⟨za,za⟩;go_enter func10,ntmps10;go_wp2;go_ret;exact⟨rfl,rfl⟩
 ·rw[qPt f]at hd;subst hd;go_enter func10,ntmps10;go_wp2;go_ret;exact⟨rfl,rfl⟩
theorem qM9 {P:Program} {ρ:Operand->qz} {o:Oper} {x y:Operand} {t:yA} {s u:ByteArray} {M:Nat} (a:o.op= .slice t x qx (qw y) qx) (d:ρ x=qW s) (e:ρ y=qV qj (M:Int)) (f:M<=s.size) (c:s.extract 0 M=u) (b:P.underlying t=qw .string) (w:qy):(execOp ρ o).run P w= .ok (.value (qW u)) w:=by
 unfold execOp;subst c;simp[a,d,e,go_sem,b];intro h;omega
theorem qJ1 {k:IntKind} {w w':qy} {a:Option yB} {len d:Nat} {g:Nat->Int×Int} (h:Kit.zEq k w a len d g) (j:yI w.heap.size w w'):Kit.zEq k w' a len d g:=by
 refine⟨h.1,h.2.1,fun i hi=> ?_⟩;obtain⟨b,c,l,e,f,m,n⟩:=h.2.2 i hi;exact⟨b,c,l,by rw[j.cell (p:=⟨b,c+i*2,qx⟩) (qQk e)];exact e,by rw[j.cell (p:=⟨b,c+i*2+1,qx⟩) (qQk f)];exact f,m,n⟩
structure Pc (lev:Nat) (x:T) (ps:List T) (n:Nat):Prop where
 P:Ps lev ps n
 A:Arc lev ps (zCt lev ps) n
 flat:ps.flatten=x
 few:n<=64
theorem qOv (h:Nat) (j:1<=h) (l:h<=9) (x:T) (q:kG x<=500):∃n,Pc h x (pcs (40*h) x) n:=by
 have d:=zOh (40*h) za x;have a:=zJq (40*h) za x;have b:=zHv (40*h) za x;obtain⟨g,e⟩:=zB (pcs (40*h) x);rw[e]at d a b⊢;have c:∀k,pos g k<=32+45000*kG g:=fun k=>zW3 g (fun p m=>⟨(a p m).1,by have:=(a p m).2;omega⟩) k;have f:(zCt h g).size<=100000000:=by
  rw[zLr];have:=c (kG g);omega
 have o:∀k,k<kG g->g.getD k []=g[k]! :=fun k i=>by simp[qPw,qPu i]
 refine⟨kG g,⟨rfl,j,l,za,fun k i=> ?_,by rw[b];omega,fun k i=> ?_,fun k _=>by have:=c k;omega⟩,qGl h g j l f za a,b,za⟩
 ·rw[qPw,qPu i];exact(a _ (qQ i)).1
 ·rw[zZv g k i];have:0<kG (zAn g[k]):=by
   rw[zE6,qPx,zAc];omega
  omega
theorem qNv (s:ByteArray) (a:Option yB) (len i:Nat) (g:Nat->Int×Int) (w:qy) (o:s.size<=60) (h:Kit.zEq qj w a len i g):yC yG 48 #[qW s,qX a len i,qV qj 400] w fun e w'=>∃u:ByteArray,e=qp (qW u)/\u.size<=400/\yI w.heap.size w w':=by
 have n:(if(400:Int)<(s.size:Int)then(400:Int)else(s.size:Int))=(s.size:Int):=qPt za;have b:min (s.size:Int) 400=(s.size:Int):=za
 have j:IntKind.i64.wrap ((400:Int)-(s.size:Int))=((400-s.size:Nat):Int):=by rw[qQb _ ⟨za,za⟩];omega
 have l:=zH (fun w' (k:yI w.heap.size w w')=>Rle.qBu a len i g (400-s.size) za ((400-s.size:Nat):Int) rfl w' (qJ1 h k));have d:s.extract 0 s.size=s:=extract_all s;have m:=zH j;clear h j;go_enter func48,ntmps48;go_wp2_with fail;refine zS [] (fun _=>True) [0,0,2,0,12,17,0,0,0,256,0,1536,2176,4160,8224,32767] 16<|zu 0 7 (qW s)<|zu 1 8 (qW s)<|zu 2 9 (qV qj (s.size:Int))<|zu 3 10 (qV qj 400)<|zv 4 11 (qV qj (s.size:Int)) (fun w=>qKe (x:= .tmp 9) (y:= .tmp 10) (t:=3) (u:=3) zf zf zf b _)<|zv 5 12 (qW s) (fun w=>qM9 (t:=9) (x:= .tmp 7) (y:= .tmp 11) rfl zf zf (qPq _) d underlying9 _)<|zp [6,7,8,9,10,11,12]<|zk 13 (qX a len i)<|zk 14 (qV qj 400)<|zk 15 (qW s)<|zk 16 (qV qj (s.size:Int))<|zk 17 (qV qj 400)<|zt 18 (qV qj (s.size:Int)) (qKe (x:= .tmp 16) (y:= .tmp 17) (t:=3) (u:=3) zf zf zf b _)<|zt 19 (qV qj ((400-s.size:Nat):Int)) (Kit.zM6 (x:= .tmp 14) (y:= .tmp 18) (t:=3) (u:=3) zf zf zf m.out _)<|zn<|zx 13 20 16 #[qX a len i,qV qj ((400-s.size:Nat):Int)] (l.out w.drew (yN _ _).drew)<| ?_
 rintro e w2 ⟨u,rfl,p,f⟩;have c:s.size+u.size<=9223372036854775807:=za
 refine⟨_,rfl,.inr (.inr trivial),?_⟩;refine zp [14,15]<|zt 21 (qW (s++u)) (qLp (t:=9) (t':=9) (x:= .tmp 12) (y:= .tmp 20) zf zf zf c)<|zk 6 (qW (s++u))<|zn<|zE<| ?_
 simp only[zP,zI,Act.put,qPz,qPy,qP0];go_wp2;go_ret;exact⟨s++u,rfl,by rw[ByteArray.size_append];omega,(yN _ _).drew.trans f⟩
theorem zY7 (s:ByteArray) (a:Option yB) (len f:Nat) (g:Nat->Int×Int) (w:qy) (j:s.size<=maxLen) (h:Kit.zEq qj w a len f g):yC yG 8 #[qW s,qX a len f,qV qj 400] w fun e w'=>∃u:ByteArray,e=qp (qW u)/\u.size<=400/\yI w.heap.size w w':=by
 obtain⟨M,t,n,m,o,b,c⟩:=Kit.zRp s 60 60 rfl;have l:min (s.size:Int) 60=(M:Int):=by have:=c.out;omega
 have i:=zH (qNv t a len f g w b h);unfold maxLen at j;clear h;go_enter func8,ntmps8;go_wp2_with fail;(with_reducible refine i.out.mono ?_);rintro e p ⟨u,rfl,k,d⟩;go_wp2;go_ret;exact⟨u,rfl,k,d⟩
end To
namespace Sk
open Bt Zr Ch Tn Sm Ix2
open Front (ival)
theorem qNc (q n X:Nat) (y:List T) (A:Arc q y (zCt q y) n) (P:Ps q y n) (a2:(zCt q y).size<=100000000) (O:Nat) (r1:1<=O) (r2:O<=64) (w:qy):
  yC yG 41 #[qW (zCt q y),qV qj (O:Int),qV qj 2] w fun e w'=>∃d,e=qp (qZ #[d.v,qV qj 0])/\Dk q y n X w' d [free,free]/\d.a=zCt q y/\d.sh=⟨O,0,[]⟩/\d.dec=0/\d.m=2/\yI w.heap.size w w':=by
 have S:=zH (fun w=>qM7 q n y (zCt q y) A (by have:=P.all;omega) w);obtain⟨a,V⟩:=zB (zCt q y);rw[V]at S;rw[V];obtain⟨B,M⟩:=zB w.heap.size;obtain⟨W,N⟩:=zB ((w.alloc (qm #[qW a] 9)).alloc (qm ZD TDk));have hz:W.heap.size=B+2:=by rw[<-N,zA,zA,M]
 have Z:yI B w W:=by rw[<-N,<-M];exact((yN _ _).alloc (qPq _) _).alloc (by simp only[zA];omega) _
 have R:W.heap[B]? =qw (qm #[qW a] 9):=by rw[<-N,<-M];exact(Lib.alloc_old _ _ _ (by simp only[zA];omega)).trans (zAh w _)
 have R0:=yP (W.heap[B+1]? =qw (qm ZD TDk)) (by rw[<-N,<-M,<-zA w (qm #[qW a] 9)];exact zAh _ _);have Y:∀(args:Array qz) (w:qy),(callFunc 116 args).run yG w= .ok (.enter 116 args) w:=enters_of func116 zf rfl;have HD:=zH (qNp q n X y a O r1 r2 116 #[qY (qw ⟨B,0,qx⟩)] Y W (fun w' hw=>by
  have y0:w'.cell? ⟨B,0,qx⟩=qw (qW a):=by simp[yM,hkeep R hw]
  have I:=zH (S.out w');clear Y hw R R0 Z hz N M V P A S;go_enter func116,ntmps116;go_wp2_with fail;(with_reducible refine I.out.mono ?_);rintro e w1 ⟨p,c,rfl,ho,b⟩;clear y0;go_wp2;go_ret2;exact⟨p,c,rfl,ho,b⟩))
 obtain⟨HB,HW,HE,HZ⟩:=yS Z N M hz;have y0:W.cell? ⟨B,0,qx⟩=qw (qW a):=by simp[yM,R]
 rw[M];clear P A V M N hz Z R Y S;go_enter func41,ntmps41;go_wp2_with fail;clear y0;rw[HE.out,show(w.alloc (qm #[qW a] 9)).alloc (qm #[qW ⟨#[]⟩,qX qx 0 0,qV qj 0,qV qj 0,qX qx 0 0,qX qx 0 0,qV qj 0] TDk)=W from HW.out];(with_reducible refine HD.out.mono ?_);rintro e w1 ⟨d,rfl,s,F,l,k,o,b⟩;have z:=hkeep R0.out b;obtain⟨w2,i,G,r,j,H,f⟩:=st7 (a':=qW d.a) (b':=qX d.ip d.n d.ic) (c':=qV qj d.sh.room) (d':=qV qj d.sh.clock) (e':=qX d.sa (kG d.sh.held) d.sk) (f':=qX d.rp d.m d.rc) (g':=qV qj (d.dec:Int)) z (by simp[Value.oneCell']);have t:Dk q y n X w2 d [free,free]:=s.far z z8 z8 z8 f;have x:yI B w w2:=(HB.out.trans (b.mono (by rw[HZ.out];omega))).trans (j B za);obtain⟨HH,HK,h,L⟩:=yS r t (yO F (yO l (yO k o))) x;unfold DV.v DV.cl;obtain⟨a',ip,n',ic,⟨g,a0,a1⟩,sa,sk,rp,m,rc,dec⟩:=d;simp only at i HH⊢;obtain⟨x0,x1,x2,x3,x4,x5,x6⟩:=qH7 z;have g0:=qH9 z 0;have g1:=qH9 z 1;have g2:=qH9 z 2;have g3:=qH9 z 3;have g4:=qH9 z 4;have g5:=qH9 z 5;have g6:=qH9 z 6;have K:=zH i;clear s F l k o b z G r j H f t x i;go_wp2;rw[show((((((w1.setCell ⟨B+1,0,qx⟩ (qW a')).setCell ⟨B+1,1,qx⟩ (qX ip n' ic)).setCell ⟨B+1,2,qx⟩ (qV qj g)).setCell ⟨B+1,3,qx⟩ (qV qj a0)).setCell ⟨B+1,4,qx⟩ (qX sa (kG a1) sk)).setCell ⟨B+1,5,qx⟩ (qX rp m rc)).setCell ⟨B+1,6,qx⟩ (qV qj (dec:Int))=w2 from K.out];refine qP5 (v:=qZ #[.agg #[qW a',qX ip n' ic,qV qj g,qV qj a0,qX sa (kG a1) sk,qX rp m rc,qV qj (dec:Int)],qV qj 0]) ?_ rfl ?_
 ·exact Cache.qJa (p:=6) (u:=7) rfl _ _ _ ⟨B+1,0,qx⟩ _ rfl (ld7 HH.out)
 ·exact⟨_,rfl,HK.out,h.out.1,h.out.2.1,h.out.2.2.1,h.out.2.2.2,L.out⟩
end Sk
namespace Sh
open Bt Zr St
abbrev zCb:ByteArray:=⟨#[97,98]⟩
abbrev zBn:ByteArray:=⟨#[54,49,54,50]⟩
theorem qF2 (w:qy):yC yG 273 #[qW zCb] w fun e w'=>e=qp (qW zBn)/\yI w.heap.size w w':=by
 obtain⟨b,r⟩:=zB w.heap.size;obtain⟨t,j⟩:=zB (w.alloc (qm #[qY qx,qX qx 0 0] Rle.TB));have n:=yP (xw t b b []) (by rw[<-j,<-r];exact Rle.Bld.new w);have m:=yP (yI b w t) (by rw[<-j,<-r];exact(yN _ _).alloc (qPq _) _);have u:=yP (b<=t.heap.size) (by rw[<-j,zA,r];omega);obtain⟨y,HB⟩:=yQ j r;rw[r];clear j r;go_enter func273,ntmps273;go_wp2;rw[HB.out,show w.alloc (qm #[qY qx,qX qx 0 0] Rle.TB)=t from y.out];go_loopw [7] (fun iv wr=>∃k:Nat,k<=2/\iv=qV qj k/\yH (xw wr b b (([54,49,54,50]:List UInt8).take (2*k)))/\yH (yI b w wr)/\yH (b<=wr.heap.size)) (fun iv _=>2-(intOf iv).toNat)
 case atStart=>exact⟨0,za,rfl,n,m,u⟩
 case round=>
  clear n m u;obtain⟨k,I,rfl,h,i,q⟩:=hrel;have g:=zH (fun(W:qy) (l:List UInt8) (c:UInt8) (V:Int) (H:V=(c.toNat:Int)) (K:kG l<=100) (G:xw W b b l) (q:b<=W.heap.size)=>show yC yG 74 #[qY (qw ⟨b,0,qx⟩),qV ql V] W fun e w'=>e=qp .nilIface/\xw w' b b (l++[c])/\yI b W w'/\b<=w'.heap.size from by
   subst H;refine(Rle.zE7 b b l c W G za q).mono ?_;rintro e w' ⟨z,B,s,_,F⟩;exact⟨z,B,s,qP4 q F⟩)
  obtain rfl|rfl|rfl:k=0\/k=1\/k=2:=za
  ·rw[show((0:Nat):Int)=0 from rfl];go_wp2_with fail;(with_reducible refine(g.out _ [] 54 _ zf zm h.out q.out).mono ?_);rintro e w2 ⟨rfl,d,f,a⟩;have X:=zH (yO d (yO (i.out.trans f) a));clear d f a h i q;go_wp2_with fail;(with_reducible refine(g.out _ [54] 49 _ zf zm X.out.1 X.out.2.2).mono ?_);rintro e x ⟨rfl,d,f,a⟩;have Y:=zH (yO d (yO (X.out.2.1.trans f) a));clear d f a X g;go_wp2;go_roundw
   case rel=>exact⟨1,za,rfl,zH Y.out.1,zH Y.out.2.1,zH Y.out.2.2⟩
   case measure=>simp only[intOf];omega
  ·rw[show((1:Nat):Int)=1 from rfl];go_wp2_with fail;(with_reducible refine(g.out _ [54,49] 54 _ zf zm h.out q.out).mono ?_);rintro e w2 ⟨rfl,d,f,a⟩;have X:=zH (yO d (yO (i.out.trans f) a));clear d f a h i q;go_wp2_with fail;(with_reducible refine(g.out _ [54,49,54] 50 _ zf zm X.out.1 X.out.2.2).mono ?_);rintro e x ⟨rfl,d,f,a⟩;have Y:=zH (yO d (yO (X.out.2.1.trans f) a));clear d f a X g;go_wp2;go_roundw
   case rel=>exact⟨2,za,rfl,zH Y.out.1,zH Y.out.2.1,zH Y.out.2.2⟩
   case measure=>simp only[intOf];omega
  ·rw[show((2:Nat):Int)=2 from rfl];obtain⟨o,p⟩:=yQ (Rle.zD0 b b _ wr h.out q.out) i.out;clear h i g;go_wp2_with fail;(with_reducible refine o.out.mono ?_);rintro e x ⟨rfl,s,_⟩;have Y:=zH (p.out.trans s);clear s o;go_wp2;go_ret;exact⟨rfl,Y.out⟩
end Sh
namespace Sh
open Bt Zr Front Ch Sq St
abbrev zVd:ByteArray:=⟨#[48,49,50,51,52,53,54,55,56,57,97,98,99,100,101,102]⟩
theorem qHk (V:Int) (q:Nat) (a:Lib.indexByte zVd.data.toList V.toNat.toUInt8=(q:Int)) (w:qy):yC yG 272 #[qW zVd,qV ql V] w fun e w'=>e=qp (qV qj (q:Int))/\w'=w:=by
 have h:=strings_IndexByte zVd V w;rw[a]at h;exact h
def hv (k:Nat):Int×Int:=match k with
 |0=>(0,0)
 |1=>(6,0)
 |2=>(97,0)
 |3=>(97,6)
 |_=>(97,98)
abbrev TY_:yA:=5
theorem zWb (w:qy):yC yG 228 #[qW zBn] w fun e w'=>e=qp (qZ #[qW zCb,qV qj 0])/\yI w.heap.size w w':=by
 obtain⟨b,I⟩:=zB w.heap.size;obtain⟨K,f⟩:=zB (w.alloc (qm #[qV ql 0,qV ql 0] TY_));have L:=yP (K.heap[b]? =qw (qm #[qV ql (hv 0).1,qV ql (hv 0).2] TY_)) (by rw[<-f,<-I];exact zAh w _);have l:=yP (yI b w K) (by rw[<-f,<-I];exact(yN _ _).alloc (qPq _) _);have t:(Instr.makeSlice 109 (qV qj 2) (qV qj 2)).run yG w= .ok (qX (qw ⟨b,0,qx⟩) 2 2) K:=by
  have m:(prog.info? TY_).map (fun i=>(i.zero,i.size,i.bytes))=qw (qw (qV ql 0),1,1):=zf
  obtain⟨i,hi,o,h,r⟩:=qR0 m;have M:=run_makeSlice (P:=yG) w 109 TY_ i _ underlying109 hi o qj qj 2 2 za za (by rw[h];decide) (by rw[r];decide) za;rw[h,show madeCells (Value.int ql 0).cells (Int.toNat 2*1)= #[qV ql 0,qV ql 0]from zf]at M;rw[<-f,<-I];exact M
 have HB:=zH I;rw[I];clear f I;go_enter func228,ntmps228;go_wp2;clear t;go_loopw [17] (fun iv wr=>∃k:Nat,k<=4/\iv=qV qj k/\yH (wr.heap[b]? =qw (qm #[qV ql (hv k).1,qV ql (hv k).2] TY_))/\yH (yI b w wr)) (fun iv _=>4-(intOf iv).toNat)
 case atStart=>exact⟨0,za,rfl,L,l⟩
 case round=>
  clear L l;obtain⟨k,S,rfl,d,a⟩:=hrel;obtain⟨z,B,O,R⟩:=zAf d.out;have x:=zH (fun(V:Int) (q:Nat) (y:Lib.indexByte zVd.data.toList V.toNat.toUInt8=(q:Int)) (w:qy)=>qHk V q y w);obtain rfl|rfl|rfl|rfl|rfl:k=0\/k=1\/k=2\/k=3\/k=4:=za
  ·rw[show((0:Nat):Int)=0 from rfl];obtain⟨G,F⟩:=yQ (fun(V:Int) (y:V=(hv 1).1)=>show(wr.setCell ⟨b,0,qx⟩ (qV ql V)).heap[b]? =qw (qm #[qV ql (hv 1).1,qV ql (hv 1).2] TY_)from by subst y;exact zA3 0 _ d.out) (fun(V:Int)=>a.out.setCell (p:=⟨b,0,qx⟩) (qPq _) (qV ql V));unfold hv at z B;simp only at z B;go_wp2_with fail;(with_reducible refine(x.out _ 6 zf _).mono ?_);rintro e w2 ⟨rfl,rfl⟩;clear d a x;rw[show((6:Nat):Int)=6 from rfl];go_wp2;go_roundw
   case rel=>exact⟨1,za,rfl,zH (G.out _ zf),zH (F.out _)⟩
   case measure=>simp only[intOf];omega
  ·rw[show((1:Nat):Int)=1 from rfl];obtain⟨G,F⟩:=yQ (fun(V:Int) (y:V=(hv 2).1)=>show(wr.setCell ⟨b,0,qx⟩ (qV ql V)).heap[b]? =qw (qm #[qV ql (hv 2).1,qV ql (hv 2).2] TY_)from by subst y;exact zA3 0 _ d.out) (fun(V:Int)=>a.out.setCell (p:=⟨b,0,qx⟩) (qPq _) (qV ql V));unfold hv at z B;simp only at z B;go_wp2_with fail;(with_reducible refine(x.out _ 1 zf _).mono ?_);rintro e w2 ⟨rfl,rfl⟩;clear d a x;rw[show((1:Nat):Int)=1 from rfl];go_wp2;go_roundw
   case rel=>exact⟨2,za,rfl,zH (G.out _ zf),zH (F.out _)⟩
   case measure=>simp only[intOf];omega
  ·rw[show((2:Nat):Int)=2 from rfl];obtain⟨G,F⟩:=yQ (fun(V:Int) (y:V=(hv 3).2)=>show(wr.setCell ⟨b,1,qx⟩ (qV ql V)).heap[b]? =qw (qm #[qV ql (hv 3).1,qV ql (hv 3).2] TY_)from by subst y;exact zA3 1 _ d.out) (fun(V:Int)=>a.out.setCell (p:=⟨b,1,qx⟩) (qPq _) (qV ql V));unfold hv at z B;simp only at z B;go_wp2_with fail;(with_reducible refine(x.out _ 6 zf _).mono ?_);rintro e w2 ⟨rfl,rfl⟩;clear d a x;rw[show((6:Nat):Int)=6 from rfl];go_wp2;go_roundw
   case rel=>exact⟨3,za,rfl,zH (G.out _ zf),zH (F.out _)⟩
   case measure=>simp only[intOf];omega
  ·rw[show((3:Nat):Int)=3 from rfl];obtain⟨G,F⟩:=yQ (fun(V:Int) (y:V=(hv 4).2)=>show(wr.setCell ⟨b,1,qx⟩ (qV ql V)).heap[b]? =qw (qm #[qV ql (hv 4).1,qV ql (hv 4).2] TY_)from by subst y;exact zA3 1 _ d.out) (fun(V:Int)=>a.out.setCell (p:=⟨b,1,qx⟩) (qPq _) (qV ql V));unfold hv at z B;simp only at z B;go_wp2_with fail;(with_reducible refine(x.out _ 2 zf _).mono ?_);rintro e w2 ⟨rfl,rfl⟩;clear d a x;rw[show((2:Nat):Int)=2 from rfl];go_wp2;go_roundw
   case rel=>exact⟨4,za,rfl,zH (G.out _ zf),zH (F.out _)⟩
   case measure=>simp only[intOf];omega
  ·rw[show((4:Nat):Int)=4 from rfl];have g:Kit.Src wr (qw ⟨b,0,qx⟩) (([97,98]:List UInt8).map Kit.zAe):=by
    intro j u H
    match j,H with
    |0,H=>exact⟨_,_,rfl,by simp at H;subst H;exact z⟩
    |1,H=>exact⟨_,_,rfl,by simp at H;subst H;exact B⟩
   have N:=Kit.Src.text (P:=yG) (n:=2) (c:=2) (src:=109) (dst:=9) g rfl underlying109 underlying5 underlying9;have s:=zH a.out;clear d a x g;go_wp2;go_ret2;exact⟨rfl,s.out⟩
end Sh
namespace Sh
open Bt Zr Wg St Sm
abbrev TBy:yA:=379
abbrev tOk:ByteArray:=⟨#[111,107]⟩
abbrev zM2:ByteArray:=⟨#[111,107,10]⟩
abbrev zA5:ByteArray:=⟨#[115,97,121]⟩
abbrev zJh:ByteArray:=⟨#[115,97,121,32,54,49,54,50,10]⟩
theorem qBy (s:ByteArray) (w:qy):(Instr.typeAssert (qh zAk (qW s)) 20 TBy yD).run yG w= .ok (qZ #[qW ⟨#[]⟩,qc yE]) w:=zf
theorem zWk (s:ByteArray) (w:qy):(Instr.typeAssert (qh zAk (qW s)) 20 3 yD).run yG w= .ok (qZ #[qV qj 0,qc yE]) w:=zf
theorem zWi (s:ByteArray) (w:qy):(Instr.typeAssert (qh zAk (qW s)) 20 65 yD).run yG w= .ok (qZ #[qV .u32 0,qc yE]) w:=zf
theorem zWl (s:ByteArray) (w:qy):(Instr.typeAssert (qh zAk (qW s)) 20 26 yD).run yG w= .ok (qZ #[qV qj 0,qc yE]) w:=zf
theorem zWj (s:ByteArray) (w:qy):(Instr.typeAssert (qh zAk (qW s)) 20 zAk yD).run yG w= .ok (qZ #[qW s,qc yD]) w:=zf
theorem qEu (s:ByteArray) (w:qy):(Instr.typeAssert (qh TBy (qW s)) 20 TBy yD).run yG w= .ok (qZ #[qW s,qc yD]) w:=zf
theorem qDc (b:Nat) (w:qy) (h:w.cell? ⟨b,0,qx⟩=qw (qh zAk (qW tOk))):
  yC yG 229 #[qX (qw ⟨b,0,qx⟩) 1 1] w fun e w'=>e=qp (qW zM2)/\yI w.heap.size w w':=by
 obtain⟨B,t⟩:=zB w.heap.size;obtain⟨H,HB⟩:=yQ h t;rw[t];clear h t;go_enter func229,ntmps229;go_wp2;go_loopw [3,13] (fun M iv wr=>∃k:Nat,k<=1/\iv=qV qj k/\∃p c,M=qX p k c/\yH (Kit.Own wr B zAk p k c (([qW tOk]:List qz).take k))/\yH (yI B w wr)) (fun _ iv _=>1-(intOf iv).toNat)
 case atStart=>exact⟨0,za,rfl,qx,0,rfl,zH (Kit.Own.start _ _ _),zH (yN _ _)⟩
 case round=>
  obtain⟨k,z,rfl,p,c,rfl,d,a⟩:=hrel;obtain rfl|rfl:k=0\/k=1:=za
  ·rw[show((0:Nat):Int)=0 from rfl];have x0:wr.cell? ⟨b,0,qx⟩=qw (qh zAk (qW tOk)):=by rw[a.out.cell (p:=⟨b,0,qx⟩) (by rw[<-HB.out];exact qQk H.out)];exact H.out
   have r:B<=wr.heap.size:=by have:=a.out.size;rw[HB.out]at this;exact this
   obtain⟨N,c1,Z,L,F,y⟩:=Kit.Own.app (ty:=zBf) zL2 (d.out.alloc (qm #[qW tOk] zAk)) (qw ⟨wr.heap.size,0,qx⟩) 1 1 [qW tOk] (Kit.zAs wr (qW tOk) zAk) rfl (fun h=>by cases h) (by simp[Value.oneCell']) (by unfold maxLen;omega) za zq;have f:=(d.out.alloc (qm #[qW tOk] zAk)).block;obtain⟨I,m⟩:=yQ F ((a.out.alloc r (qm #[qW tOk] zAk)).trans (xL y zq (fun k z=>f k z)));have S:=qBy tOk;have V:=zWk tOk;have W:=zWi tOk;have X:=zWl tOk;have Y:=zWj tOk;clear d a F y f;go_wp2_with (at_builtin;refine xA rfl (.tmp 59) (.tmp 61) zBf rfl rfl rfl L ?_);go_roundw
   case rel=>exact⟨1,za,rfl,N,c1,rfl,I,m⟩
   case measure=>simp only[intOf];omega
  ·rw[show((1:Nat):Int)=1 from rfl];have r:B<=wr.heap.size:=by have:=a.out.size;rw[HB.out]at this;exact this
   obtain⟨g,rfl,_,o,n,u,_⟩:=d.out.at_ za;have s:=zH (strings_Join g 0 c [tOk] ⟨#[32]⟩ wr (fun j x q=>by
    match j,q with
    |0,q=>
     simp at q;subst q;rw[qRh,u 0 za];rfl) o zm (by simpa using n) z8)
   rw[show(⟨(Lib.join ([tOk].map (·.data.toList)) (⟨#[32]⟩:ByteArray).data.toList).toArray⟩:ByteArray)=tOk from rfl,show([tOk]:List ByteArray).length=1 from rfl]at s;have O:tOk++(⟨#[10]⟩:ByteArray)=zM2:=rfl;have P:tOk.size=2:=rfl;have R:(⟨#[10]⟩:ByteArray).size=1:=rfl;obtain⟨l,K⟩:=yQ a.out r;clear d a u r;go_wp2_with fail;(with_reducible refine s.out.mono ?_);rintro e w2 ⟨rfl,i⟩;have G:=zH (l.out.trans (i.mono K.out));clear i s;go_wp2;go_ret;exact⟨rfl,G.out⟩
theorem qAi (b:Nat) (w:qy) (h:w.cell? ⟨b,0,qx⟩=qw (qh zAk (qW zA5))) (W:w.cell? ⟨b,1,qx⟩=qw (qh TBy (qW zCb))):
  yC yG 229 #[qX (qw ⟨b,0,qx⟩) 2 2] w fun e w'=>e=qp (qW zJh)/\yI w.heap.size w w':=by
 obtain⟨B,M⟩:=zB w.heap.size;obtain⟨H,S,HB⟩:=yR h W M;rw[M];clear h W M;go_enter func229,ntmps229;go_wp2;go_loopw [3,13] (fun Z iv wr=>∃k:Nat,k<=2/\iv=qV qj k/\∃p c,Z=qX p k c/\yH (Kit.Own wr B zAk p k c (([qW zA5,qW zBn]:List qz).take k))/\yH (yI B w wr)) (fun _ iv _=>2-(intOf iv).toNat)
 case atStart=>exact⟨0,za,rfl,qx,0,rfl,zH (Kit.Own.start _ _ _),zH (yN _ _)⟩
 case round=>
  obtain⟨k,G,rfl,p,c,rfl,d,a⟩:=hrel;have I:B<=wr.heap.size:=by have:=a.out.size;rw[HB.out]at this;exact this
  obtain rfl|rfl|rfl:k=0\/k=1\/k=2:=za
  ·rw[show((0:Nat):Int)=0 from rfl];have x0:wr.cell? ⟨b,0,qx⟩=qw (qh zAk (qW zA5)):=by rw[a.out.cell (p:=⟨b,0,qx⟩) (by rw[<-HB.out];exact qQk H.out)];exact H.out
   obtain⟨P,c1,w1,O,z,y⟩:=Kit.Own.app (ty:=zBf) zL2 (d.out.alloc (qm #[qW zA5] zAk)) (qw ⟨wr.heap.size,0,qx⟩) 1 1 [qW zA5] (Kit.zAs wr (qW zA5) zAk) rfl (fun h=>by cases h) (by simp[Value.oneCell']) (by unfold maxLen;omega) za zq;have f:=(d.out.alloc (qm #[qW zA5] zAk)).block;obtain⟨L,n⟩:=yQ z ((a.out.alloc I (qm #[qW zA5] zAk)).trans (xL y zq (fun k G=>f k G)));have X:=qBy zA5;have t2:=zWk zA5;have t3:=zWi zA5;have t4:=zWl zA5;have t5:=zWj zA5;clear d a z y f;go_wp2_with (at_builtin;refine xA rfl (.tmp 59) (.tmp 61) zBf rfl rfl rfl O ?_);go_roundw
   case rel=>exact⟨1,za,rfl,P,c1,rfl,L,n⟩
   case measure=>simp only[intOf];omega
  ·rw[show((1:Nat):Int)=1 from rfl];have x1:wr.cell? ⟨b,1,qx⟩=qw (qh TBy (qW zCb)):=by rw[a.out.cell (p:=⟨b,1,qx⟩) (by rw[<-HB.out];exact qQk S.out)];exact S.out
   have X:=qEu zCb;have hne:¬zCb.toList.isEmpty=yD:=by rw[qS8];decide
   obtain⟨V,i,r,F⟩:=yS (qF2 wr) a.out d.out I;clear d a;go_wp2_with fail;(with_reducible refine V.out.mono ?_);rintro e R ⟨rfl,l⟩;have m:=r.out.below l (qPq _);have s:B<=R.heap.size:=qP4 F.out l.size;obtain⟨P,c1,w4,O,z,y⟩:=Kit.Own.app (ty:=zBf) zL2 (m.alloc (qm #[qW zBn] zAk)) (qw ⟨R.heap.size,0,qx⟩) 1 1 [qW zBn] (Kit.zAs R (qW zBn) zAk) rfl (fun h=>by cases h) (by simp[Value.oneCell']) (by unfold maxLen;omega) za zq;have f:=(m.alloc (qm #[qW zBn] zAk)).block;obtain⟨L,n⟩:=yQ z (((i.out.trans (l.mono F.out)).alloc s (qm #[qW zBn] zAk)).trans (xL y zq (fun k G=>f k G)));clear z y f l m V i r x1 X hne;go_wp2_with (at_builtin;refine xA rfl (.tmp 26) (.tmp 29) zBf rfl rfl rfl O ?_);go_roundw
   case rel=>exact⟨2,za,rfl,P,c1,rfl,L,n⟩
   case measure=>simp only[intOf];omega
  ·rw[show((2:Nat):Int)=2 from rfl];obtain⟨g,rfl,_,u,t,N,_⟩:=d.out.at_ za;have K:=zH (strings_Join g 0 c [zA5,zBn] ⟨#[32]⟩ wr (fun j x q=>by
    match j,q with
    |0,q=>
     simp at q;subst q;rw[qRh,N 0 za];rfl
    |1,q=>
     simp at q;subst q;rw[N 1 za];rfl) u zm (by simpa using t) z8)
   rw[show(⟨(Lib.join ([zA5,zBn].map (·.data.toList)) (⟨#[32]⟩:ByteArray).data.toList).toArray⟩:ByteArray)=⟨#[115,97,121,32,54,49,54,50]⟩from rfl,show([zA5,zBn]:List ByteArray).length=2 from rfl]at K;have a0:(⟨#[115,97,121,32,54,49,54,50]⟩:ByteArray)++(⟨#[10]⟩:ByteArray)=zJh:=rfl;have a1:(⟨#[115,97,121,32,54,49,54,50]⟩:ByteArray).size=8:=rfl;have a2:(⟨#[10]⟩:ByteArray).size=1:=rfl;obtain⟨i,F⟩:=yQ a.out I;clear d a N I;go_wp2_with fail;(with_reducible refine K.out.mono ?_);rintro e w2 ⟨rfl,o⟩;have Y:=zH (i.out.trans (o.mono F.out));clear o K;go_wp2;go_ret;exact⟨rfl,Y.out⟩
theorem qFg (b:Nat) (w:qy) (h:w.cell? ⟨b,0,qx⟩=qw (qh zAk (qW tOk))):
  yC yG 173 #[qV qj 0,qX (qw ⟨b,0,qx⟩) 1 1] w fun e w'=>e=qp (qW zM2)/\yI w.heap.size w w':=by
 have H:=zH (qDc b w h);clear h;go_enter func173,ntmps173;go_wp2_with fail;(with_reducible refine H.out.mono ?_);rintro e w2 ⟨rfl,a⟩;go_wp2;go_ret;exact⟨rfl,a⟩
theorem qC6 (b:Nat) (w:qy) (h:w.cell? ⟨b,0,qx⟩=qw (qh zAk (qW zA5))) (c:w.cell? ⟨b,1,qx⟩=qw (qh TBy (qW zCb))):
  yC yG 173 #[qV qj 0,qX (qw ⟨b,0,qx⟩) 2 2] w fun e w'=>e=qp (qW zJh)/\yI w.heap.size w w':=by
 have H:=zH (qAi b w h c);clear h c;go_enter func173,ntmps173;go_wp2_with fail;(with_reducible refine H.out.mono ?_);rintro e w2 ⟨rfl,a⟩;go_wp2;go_ret;exact⟨rfl,a⟩
end Sh
namespace Sh
open Zr Ch Sq St Bk Sm
abbrev TDk:yA:=215
abbrev zJc:yA:=291
def P1:List (List UInt8):=pcs (40*1) [97,98]
def zC4:ByteArray:=zCt 1 P1
theorem qH0:Arc 1 P1 zC4 (kG P1):=by
 have c:=zOh (40*1) za [97,98];have a:=zJq (40*1) za [97,98];have b:=zW3 P1 (fun p b=>⟨(a p b).1,by have:=(a p b).2;omega⟩) (kG P1);have d:kG P1<=1:=by unfold P1;simp at c⊢;omega
 exact qGl 1 P1 za za (by rw[zLr];omega) za a
theorem qCb:P1.flatten=[97,98]:=zHv (40*1) za [97,98]
def DK (w:qy) (D:Nat) (a:ByteArray):Prop:=w.heap[D]? =qw (qm #[qW a,qW ⟨#[]⟩,qW ⟨#[]⟩,qX qx 0 0,qV qj 0,qV qj 0,qX qx 0 0,qX qx 0 0,qV qj 0,qc yE] TDk)
section
variable {w w':qy} {D:Nat} {a:ByteArray}
theorem DK.lt (h:DK w D a):D<w.heap.size:=zAd h
theorem DK.below (h:DK w D a) (b:yI w.heap.size w w'):DK w' D a:=(b.block D h.lt).trans h
theorem DK.c0 (h:DK w D a):w.cell? ⟨D,0,qx⟩=qw (qW a):=by unfold DK at h;simp[yM,h]
theorem DK.c9 (h:DK w D a):w.cell? ⟨D,9,qx⟩=qw (qc yE):=by unfold DK at h;simp[yM,h]
theorem DK.fr (h:DK w D a) (j:Nat):w.frozen? ⟨D,j,qx⟩=yE:=by unfold DK at h;simp[World.frozen?,h]
theorem DK.set (h:DK w D a) (s:ByteArray):DK (w.setCell ⟨D,0,qx⟩ (qW s)) D s:=zA3 0 (qW s) h
end
theorem qFd (D:Nat) (a:ByteArray) (w:qy) (h:DK w D a):
  yC yG 211 #[qY (qw ⟨D,0,qx⟩),.agg #[qV qj 1,qV qj 0,qV qj 0,qW zCb]] w fun e w'=>e=qp (qW zM2)/\DK w' D zC4/\Upd w w' D:=by
 obtain⟨o,b⟩:=zB (w.alloc (qm #[qV qj 1,qV qj 0,qV qj 0,qW zCb] zJc));have f:yI w.heap.size w o:=by rw[<-b];exact(yN _ _).alloc (qPq _) _
 have j:=yP (yC yG 9 #[qW zCb,qV qj 1] o fun e w'=>e=qp (qZ #[qW zC4,qV qj 0])/\yI o.heap.size o w') (zZ5 1 zCb [97,98] rfl zm za za o);obtain⟨F,t,z⟩:=yR b (h.below f) (Upd.of_below f (qP6 h.lt));clear f h b;obtain⟨s,m⟩:=zB zC4;rw[m]at j⊢;go_enter func211,ntmps211;go_wp2_with fail;rw[show w.alloc (qm #[qV qj 1,qV qj 0,qV qj 0,qW zCb] zJc)=o from F.out];(with_reducible refine j.out.mono ?_);rintro e w2 ⟨rfl,c⟩;have q:=t.out.below c;have c0:=q.c0;have L:=q.fr 0;have r:=q.set s;have u:=(z.out.trans (Upd.of_below c (qP6 t.out.lt))).trans (Upd.set (w:=w2) (K:=D) (i:=0) (v:=qW s));obtain⟨p,n⟩:=zB (w2.setCell ⟨D,0,qx⟩ (qW s));rw[n]at r u;obtain⟨x,k⟩:=zB (p.alloc (qm #[qh zAk (qW tOk)] 20));have d:yI p.heap.size p x:=by rw[<-k];exact(yN _ _).alloc (qPq _) _
 have B:x.heap[p.heap.size]? =qw (qm #[qh zAk (qW tOk)] 20):=by rw[<-k];exact zAh p _
 obtain⟨l,y,H⟩:=yR (qFg p.heap.size x (by simp[yM,B])) (r.below d) (u.trans (Upd.of_below d (qP6 r.lt)));clear c q j t z r u d B;go_wp2_with fail;(with_reducible refine l.out.mono ?_);rintro e M ⟨rfl,g⟩;obtain⟨G,I⟩:=yQ (y.out.below g) (H.out.trans (Upd.of_below g (qP6 y.out.lt)));clear g;go_wp2;go_ret;exact⟨rfl,G.out,I.out⟩
theorem qG5 (D:Nat) (u x y:Int) (s:ByteArray) (w:qy) (h:DK w D zC4):
  yC yG 216 #[qY (qw ⟨D,0,qx⟩),.agg #[qV qj u,qV qj x,qV qj y,qW s]] w fun e w'=>e=qp (qW zJh)/\DK w' D zC4/\Upd w w' D:=by
 obtain⟨m,a⟩:=zB (w.alloc (qm #[qV qj u,qV qj x,qV qj y,qW s] zJc));have d:yI w.heap.size w m:=by rw[<-a];exact(yN _ _).alloc (qPq _) _
 have g:=yP (yC yG 14 #[qW zC4] m fun e w'=>e=qp (qZ #[qW zCb,qV qj 0])/\yI m.heap.size m w') (by
  have h:=zZq 1 (kG P1) P1 zC4 qH0 (by rw[qCb];simp) m;rw[qCb]at h;exact h)
 obtain⟨z,l,r⟩:=yR a (h.below d) (Upd.of_below d (qP6 h.lt));clear d h a;obtain⟨H,k⟩:=zB zC4;rw[k]at g l⊢;have c0:=l.out.c0;go_enter func216,ntmps216;have a:=z.out;go_wp2_with fail;clear a;(with_reducible refine g.out.mono ?_);rintro e w2 ⟨rfl,b⟩;have n:=l.out.below b;have t:=r.out.trans (Upd.of_below b (qP6 l.out.lt));obtain⟨o,i⟩:=zB (w2.alloc (qm #[qh zAk (qW zA5),qh TBy (qW zCb)] 20));have c:yI w2.heap.size w2 o:=by rw[<-i];exact(yN _ _).alloc (qPq _) _
 have p:o.heap[w2.heap.size]? =qw (qm #[qh zAk (qW zA5),qh TBy (qW zCb)] 20):=by rw[<-i];exact zAh w2 _
 obtain⟨j,q,F⟩:=yR (qC6 w2.heap.size o (by simp[yM,p]) (by simp[yM,p])) (n.below c) (t.trans (Upd.of_below c (qP6 n.lt)));clear b g l r n t c p c0;go_wp2_with fail;(with_reducible refine j.out.mono ?_);rintro e I ⟨rfl,f⟩;obtain⟨B,G⟩:=yQ (q.out.below f) (F.out.trans (Upd.of_below f (qP6 q.out.lt)));clear f;go_wp2;go_ret;exact⟨rfl,B.out,G.out⟩
end Sh
namespace Sh
open Hf Zr Sq Tn Bk
def AG (w:qy) (A:Nat) (a b c:Int) (s:ByteArray):Prop:=w.heap[A]? =qw (qm #[qV qj a,qV qj b,qV qj c,qW s] zJc)
theorem AG.lt {w:qy} {A:Nat} {a b c:Int} {s:ByteArray} (h:AG w A a b c s):A<w.heap.size:=zAd h
theorem qEs (A:Nat) (k d f:Int) (s:ByteArray) (w:qy) (h:AG w A k d f s):
  yC yG 172 #[qY (qw ⟨A,0,qx⟩),qV qj 0,qV ql 110,qW ⟨#[49]⟩] w fun e w'=>e=qp (qc yD)/\AG w' A 1 d f s/\Upd w w' A:=by
 have c:=yP (yC yG 226 #[qW ⟨#[49]⟩] w fun e w'=>e=qp (qZ #[qV qj 1,.nilIface])/\yI w.heap.size w w') ((strconv_Atoi ⟨#[49]⟩ 1 z8 z8 w).mono (fun e w' h=>⟨h.1,by obtain⟨_,t,rfl⟩:=h;exact Joins.below_bytesWorld _ _ _ _ (qPq _)⟩));have b:=zH (fun(w:qy)=>show yC yG 227 #[qV qj ((1:Nat):Int)] w fun e w'=>e=qp (qW ⟨#[49]⟩)/\w'=w from by
  have h:=strconv_Itoa_small 1 za w;rw[show(⟨(Lib.decDigits 1).toArray⟩:ByteArray)=⟨#[49]⟩from by first|kernel_rfl|(unfold Lib.decDigits;rfl)|(unfold Lib.decDigits;decide)]at h;exact h)
 rw[show((1:Nat):Int)=1 from rfl]at b;have H:=zH h;clear h;go_enter func172,ntmps172;go_wp2_with fail;(with_reducible refine c.out.mono ?_);rintro e j ⟨rfl,a⟩;have g:AG j A k d f s:=(a.block A H.out.lt).trans H.out;obtain⟨⟨c0,c1,c2,c3⟩,q,n,o,p⟩:=zDf g;have l:=yP (AG (j.setCell ⟨A,0,qx⟩ (qV qj 1)) A 1 d f s) (zA3 0 _ g);have m:=zH ((Upd.of_below a (qP6 H.out.lt)).trans (Upd.set (w:=j) (K:=A) (i:=0) (v:=qV qj 1)));clear g a c c1 c2 c3 n o p;go_wp2_with fail;(with_reducible refine(b.out _).mono ?_);rintro e r ⟨rfl,rfl⟩;go_wp2;go_ret;exact⟨rfl,l.out,m.out⟩
theorem qEt (A:Nat) (c d f:Int) (s:ByteArray) (w:qy) (h:AG w A c d f s):
  yC yG 172 #[qY (qw ⟨A,0,qx⟩),qV qj 1,qV ql 104,qW zBn] w fun e w'=>e=qp (qc yD)/\AG w' A c d f zCb/\Upd w w' A:=by
 have b:=zH (zWb w);have hne:¬zBn.toList.isEmpty=yD:=by rw[qS8];decide
 have H:=zH h;clear h;go_enter func172,ntmps172;go_wp2_with fail;(with_reducible refine b.out.mono ?_);rintro e j ⟨rfl,a⟩;have g:AG j A c d f s:=(a.block A H.out.lt).trans H.out;obtain⟨⟨c0,c1,c2,c3⟩,m,n,o,p⟩:=zDf g;have k:=yP (AG (j.setCell ⟨A,3,qx⟩ (qW zCb)) A c d f zCb) (zA3 3 _ g);have l:=zH ((Upd.of_below a (qP6 H.out.lt)).trans (Upd.set (w:=j) (K:=A) (i:=3) (v:=qW zCb)));clear g a b c1 c2 c0 n o m;go_wp2;go_ret;exact⟨rfl,k.out,l.out⟩
end Sh
namespace Sh
open Hf Bt Zr Front Wg Ch Sq Tn Rg Sm
section
variable {P:Program} {o:Oper} {a:Act} {w w':qy} {K:Act->qy->Prop} {Q:Exit->Act->qy->Prop}
theorem zA9 (v:qz) (hv:(execOp a.eval o).run P w= .ok (.value v) w') (h:K (a.put o.dst v) w'):Oper.wp P o a w K Q:=by
 unfold Oper.wp;rw[hv];exact h
theorem zBd (m x v:Operand) (t:yA) (f:o.op= .insert t m x v) {b d c:qz} (e:a.eval m=b) (i:a.eval x=d) (hv:a.eval v=c) (g:(Instr.mapUpdate t b d c).run P w= .ok () w') (h:K (a.put o.dst yJ) w'):Oper.wp P o a w K Q:=by
 unfold Oper.wp;simp[execOp,f,e,i,hv,g,Result.andThen];exact h
theorem zHy (g:FuncId) (args:Array qz) {R:Ending->qy->Prop} (hv:(execOp a.eval o).run P w= .ok (.enter g args) w) (d:yC P g args w R) (h:∀e w',R e w'->∃v,e=qp v/\K (a.put o.dst v) w'):Oper.wp P o a w K Q:=by
 unfold Oper.wp;rw[hv,Oper.upon_enter];refine d.mono fun e b f=> ?_;obtain⟨v,rfl,c⟩:=h e b f;exact c
end
theorem bt {L i j:Nat} (h:j≠i):(L|||1<<<i).testBit j=L.testBit j:=by
 rw[qR5,qTa,qTb,qP1 (fun e=>h e.symm),Bool.or_false]
theorem bs {L i:Nat}:(L|||1<<<i).testBit i=yD:=by
 rw[qR5,qTa,qTb,qP9 rfl,Bool.or_true]
theorem bm {L i j:Nat} (h:L.testBit j=yD):(L|||1<<<i).testBit j=yD:=by rw[qR5,h,Bool.true_or]
abbrev zBt:yA:=287
def str (l:List UInt8):qz:=qW ⟨l.toArray⟩
theorem str_inj {k l:List UInt8} (h:str k=str l):k=l:=by
 injection h with h
 injection h with h
 simpa using h
def row (a:List UInt8) (f:qz) (b:Bool):qz:= .agg #[str a,f,qc b]
def met (f D:Nat):qz:= .func (.func f) #[qY (qw ⟨D,0,qx⟩)] #[]
def zBy (b:Nat):qz:= .func (.func 266) #[] #[qY (qw ⟨b,0,qx⟩)]
def zF4:List (List UInt8):=[[97,114,99,104,105,118,101],[115,105,100,101,99,97,114],[112,97,99,107],[109,111,114,101],[116,117,114,110],[99,117,116],[98,121,116,101,115],[115,97,121],[105,110,100,101,120],[115,97,118,101],[111,112,101,110],[111,112,101,110,98,121],[114,101,97,100],[97,115,107],[115,116,101,112],[115,104,101,108,102],[114,101,97,100,101,114,115]]
def ibL:List Nat:=[7,14,18,22,26,30,34,38,42,46,50,54,58,62,66,70,74]
def zQg (D:Nat):List qz:=[yJ,yJ,row [110,104] (met 211 D) yE,
 row [110,104] (met 212 D) yE,
 row [110] (met 213 D) yE,
 row [110] (met 214 D) yE,
 row [] (met 215 D) yE,
 row [] (met 216 D) yE,
 row [] (met 217 D) yE,
 row [] (met 218 D) yE,
 row [110,110] (met 219 D) yE,
 row [110,110] (met 220 D) yE,
 row [110,110,110] (met 221 D) yD,
 row [110,110,110] (met 222 D) yD,
 row [110] (met 223 D) yD,
 row [] (met 224 D) yD,
 row [] (met 225 D) yD]
def MS:List Nat:=[0,0,0,4,8,18,32,65,0,0,512,1024,2336,4096,8193,0,32768,65536,131073,0,524288,1048576,2097153,0,8388608,16777216,33554433,0,134217728,268435456,536870913,0,2147483648,4294967296,8589934593,0,34359738368,68719476736,137438953473,0,549755813888,1099511627776,2199023255553,0,8796093022208,17592186044416,35184372088833,0,140737488355328,281474976710656,562949953421313,0,2251799813685248,4503599627370496,9007199254740993,0,36028797018963968,72057594037927936,144115188075855873,0,576460752303423488,1152921504606846976,2305843009213693953,0,9223372036854775808,18446744073709551616,36893488147419103233,0,147573952589676412928,295147905179352825856,590295810358705651713,0,2361183241434822606848,4722366482869645213696,9444732965739290427393,37778931862957161709567,75557863725914323419135]
def L0:Nat:=17630168202713342119710
def zL7:List Nat:=[0,5,6,7,12,13,14,18,22,26,30,34,38,42,46,50,54,58,62,66,70,74,75,76]
def FR (D:Nat) (s2 s3 d e a b c:qz):Act:=⟨#[(qY (qw ⟨D,0,qx⟩)),
 yJ,
 s2,
 s3,
 (qY (qw ⟨D,0,qx⟩)),
 (qY (qw ⟨D,0,qx⟩)),
 (qY (qw ⟨D,0,qx⟩)),
 (qY (qw ⟨D,0,qx⟩)),
 d,
 e,
 (qY (qw ⟨D,0,qx⟩)),
 (qY (qw ⟨D,0,qx⟩)),
 (qY (qw ⟨D,0,qx⟩)),
 (qY (qw ⟨D,1,qx⟩)),
 a,
 b,
 (qY (qw ⟨D,0,qx⟩)),
 met 211 D,
 row [110,104] (met 211 D) yE,
 (qY (qw ⟨D,0,qx⟩)),
 met 212 D,
 row [110,104] (met 212 D) yE,
 (qY (qw ⟨D,0,qx⟩)),
 met 213 D,
 row [110] (met 213 D) yE,
 (qY (qw ⟨D,0,qx⟩)),
 met 214 D,
 row [110] (met 214 D) yE,
 (qY (qw ⟨D,0,qx⟩)),
 met 215 D,
 row [] (met 215 D) yE,
 (qY (qw ⟨D,0,qx⟩)),
 met 216 D,
 row [] (met 216 D) yE,
 (qY (qw ⟨D,0,qx⟩)),
 met 217 D,
 row [] (met 217 D) yE,
 (qY (qw ⟨D,0,qx⟩)),
 met 218 D,
 row [] (met 218 D) yE,
 (qY (qw ⟨D,0,qx⟩)),
 met 219 D,
 row [110,110] (met 219 D) yE,
 (qY (qw ⟨D,0,qx⟩)),
 met 220 D,
 row [110,110] (met 220 D) yE,
 (qY (qw ⟨D,0,qx⟩)),
 met 221 D,
 row [110,110,110] (met 221 D) yD,
 (qY (qw ⟨D,0,qx⟩)),
 met 222 D,
 row [110,110,110] (met 222 D) yD,
 (qY (qw ⟨D,0,qx⟩)),
 met 223 D,
 row [110] (met 223 D) yD,
 (qY (qw ⟨D,0,qx⟩)),
 met 224 D,
 row [] (met 224 D) yD,
 (qY (qw ⟨D,0,qx⟩)),
 met 225 D,
 row [] (met 225 D) yD,
 c],[]⟩
theorem rest_of:∀i,i<77->L0.testBit i=yE->i∈zL7:=z8
def zGt (D L:Nat) (a:List MapEntry):Prop:=
 (∀e∈a,∃(i:Nat) (k:List UInt8) (b:Nat),zF4[i]? =qw k/\ibL[i]? =qw b/\e.key=str k/\L.testBit b=yD/\(2<=i->(zQg D)[i]? =qw e.val))/\
 ∀(i b:Nat) (k:List UInt8),ibL[i]? =qw b->zF4[i]? =qw k->L.testBit b=yD->∃e∈a,e.key=str k
theorem key_inj {i j:Nat} {k:List UInt8} (hi:zF4[i]? =qw k) (a:zF4[j]? =qw k):i=j:=by
 have h:∀i,i<17->∀j,j<17->zF4[i]? =zF4[j]? ->i=j:=z8
 have lt:∀{n:Nat} {k},zF4[n]? =qw k->n<17:=fun{n k} h=>(qSj.1 h).1;exact h i (lt hi) j (lt a) (hi.trans a.symm)
theorem qF1 {i j b:Nat} (hi:ibL[i]? =qw b) (a:ibL[j]? =qw b):i=j:=by
 have h:∀i,i<17->∀j,j<17->ibL[i]? =ibL[j]? ->i=j:=z8
 have lt:∀{n:Nat} {k},ibL[n]? =qw k->n<17:=fun{n k} h=>(qSj.1 h).1;exact h i (lt hi) j (lt a) (hi.trans a.symm)
theorem zPq {i b:Nat} (hi:ibL[i]? =qw b):b∈ibL:=qSt hi
theorem zX0 {D L:Nat} (h:∀b∈ibL,L.testBit b=yE):zGt D L []:=
 ⟨fun e d=>(by cases d),fun i b k c _ a=>(by rw[h b (zPq c)]at a;cases a)⟩
theorem zU8 {D L j:Nat} {a:List MapEntry} (h:zGt D L a) (p:j∉ibL):zGt D (L|||1<<<j) a:=by
 refine⟨fun e o=> ?_,fun i b k d q c=> ?_⟩
 ·obtain⟨i,k,b,f,g,l,m,n⟩:=h.1 e o;exact⟨i,k,b,f,g,l,bm m,n⟩
 ·rw[bt (show b≠j from fun e=>p (e▸zPq d))]at c;exact h.2 i b k d q c
theorem zOy {D L:Nat} {a:List MapEntry} (h:zGt D L a):∀x∈a,MapKept.IsKey .string x.key:=by
 intro x d;obtain⟨i,k,b,_,_,c,_⟩:=h.1 x d;rw[c];exact trivial
theorem qA0 {D L i b c:Nat} {k:List UInt8} {v:qz} {g:List MapEntry} (h:zGt D L g) (q:zF4[i]? =qw k) (l:ibL[i]? =qw b) (t:L.testBit b=yE) (hv:2<=i->(zQg D)[i]? =qw v):
  Instr.findNow .string (str k) g 0=qw qx/\zGt D (L|||1<<<b) (g++[⟨str k,v,c⟩]):=by
 refine⟨?_,fun e f=> ?_,fun m b' n s o r=> ?_⟩
 ·rcases MapKept.findNow_spec (d:= .string) (k:=str k) trivial g 0 (zOy h)with⟨w,_⟩|⟨j,e,_,y,z⟩
  ·exact w
  ·obtain⟨m,n,b',g1,g2,g3,p,_⟩:=h.1 e (qSt y);obtain rfl:=str_inj (g3.symm.trans z);obtain rfl:=key_inj g1 q;rw[g2]at l;obtain rfl:=qPv l;rw[p]at t;cases t
 ·rcases qSi.1 f with f|f
  ·obtain⟨m,n,b',g1,g2,g3,p,u⟩:=h.1 e f;exact⟨m,n,b',g1,g2,g3,bm p,u⟩
  ·obtain rfl:=qRm.1 f;exact⟨i,k,b,q,l,rfl,bs,hv⟩
 ·by_cases e:b'=b
  ·subst e;obtain rfl:=qF1 s l;rw[q]at o;obtain rfl:=qPv o;exact⟨_,List.mem_append_right _ (qRm.2 rfl),rfl⟩
  ·rw[bt e]at r;obtain⟨x,B,a⟩:=h.2 m b' n s o r;exact⟨x,List.mem_append_left _ B,a⟩
def Knows (D:Nat) (a:List MapEntry):Prop:=∀(i:Nat) (k:List UInt8) (v:qz),2<=i->zF4[i]? =qw k->(zQg D)[i]? =qw v->∃j,Instr.findNow .string (str k) a 0=qw (qw (j,v))
theorem zU9 {D L:Nat} {g:List MapEntry} (h:zGt D L g) (n:∀b∈ibL,L.testBit b=yD):Knows D g:=by
 intro i k v hi m hv;rcases MapKept.findNow_spec (d:= .string) (k:=str k) trivial g 0 (zOy h)with⟨_,l⟩|⟨j,e,l,p,q⟩
 ·have c:i<17:=(qSj.1 m).1;have a:ibL[i]? =qw ibL[i]:=qPu c;obtain⟨x,r,f⟩:=h.2 i _ k a m (n _ (zPq a));exact absurd f (l x r)
 ·obtain⟨s,t,b',g1,_,g3,_,o⟩:=h.1 e (qSt p);obtain rfl:=str_inj (g3.symm.trans q);obtain rfl:=key_inj g1 m;have:=o hi;rw[hv]at this;exact⟨0+j,by rw[l,qPv this]⟩
theorem qDs {w:qy} {M c:Nat} {a:Array MapEntry} {k:List UInt8} (v:qz) (h:w.heap[M]? =qw (.map a c)) (b:Instr.findNow .string (str k) a.toList 0=qw qx):
  ∃w',(Instr.mapUpdate zBt (.map (qw M)) (str k) v).run yG w= .ok () w'/\w'.heap[M]? =qw (.map (a.push ⟨str k,v,c⟩) (c+1))/\yI M w w':=by
 refine⟨w.putObj M (.map (a.push ⟨str k,v,c⟩) (c+1)),?_,?_,?_⟩
 ·simp[Instr.mapUpdate,qTl (show prog.underlying zBt=qw (.map zAk 285)from underlying287),MapKept.run_getObj_map h,MapKept.run_checkKey underlying9 (show MapKept.IsKey .string (str k)from trivial),MapKept.run_findKey underlying9 b,MapKept.run_setObj_map _ h,Result.andThen];rfl
 ·exact World.putObj_heap_same (zAd h)
 ·exact(yN M w).trans ⟨rfl,rfl,rfl,by rw[putObj_size];exact qPq _,fun k d=>World.putObj_heap_other za⟩
theorem zTh (D:Nat) (p:yB) (w:qy):
  yC yG 210 #[qY (qw ⟨D,0,qx⟩),qY (qw p)] w fun e w'=>e=qp (zBy w.heap.size)/\yI w.heap.size w w':=by
 have b:∀(fn:Fn) (first a:Array qz) (w:qy),(Instr.makeFunc fn first a).run yG w= .ok (.func fn first a) w:=fun _ _ _ _=>rfl;go_enter func210,ntmps210;go_wp2;go_ret;exact⟨rfl,(yN _ _).alloc (qPq _) _⟩
theorem zAb {w w':qy} {M:Nat} {o:Obj} (h:w.heap[M]? =qw o) (a:yI w.heap.size w w'):w'.heap[M]? =qw o:=(a.block M (zAd h)).trans h
def MapAt (D B L:Nat) (w:qy) (s:qz):Prop:=∃M a c,s= .map (qw M)/\B<=M/\w.heap[M]? =qw (.map a c)/\zGt D L a.toList
theorem MapAt.other {D B L j:Nat} {w:qy} {s:qz} (h:MapAt D B L w s) (g:j∉ibL):MapAt D B (L|||1<<<j) w s:=by
 obtain⟨M,a,c,b,d,e,f⟩:=h;exact⟨M,a,c,b,d,e,zU8 f g⟩
theorem MapAt.keep {D B L:Nat} {w w':qy} {s:qz} (h:MapAt D B L w s) (g:yI w.heap.size w w'):MapAt D B L w' s:=by
 obtain⟨M,a,c,b,d,e,f⟩:=h;exact⟨M,a,c,b,d,zAb e g,f⟩
structure IW (D B:Nat) (w0:qy) (L:Nat) (w:qy) (s2 s3 s8 s9 s14 s15 s61:qz):Prop where
 mp:L.testBit 0=yD->MapAt D B L w s3
 i5:L.testBit 5=yD->∃b,s8=zBy b
 i6:L.testBit 6=yD->∃b,s9=row [104] (zBy b) yE
 i12:L.testBit 12=yD->∃b,s14=zBy b
 i13:L.testBit 13=yD->∃b,s15=row [104] (zBy b) yE
 i75:L.testBit 75=yD->s61=s3
 i76:L.testBit 76=yD->s2=s3
 bl:yI B w0 w
 le:B<=w0.heap.size
 pre:∀k,L0.testBit k=yD->L.testBit k=yD
 cl:∀b∈ibL++[75,76],L.testBit b=yD->L.testBit 0=yD
def IV (D B:Nat) (w0:qy) (L:Nat) (a:Act) (w:qy):Prop:=∃s2 s3 e f b c d,a=FR D s2 s3 e f b c d/\IW D B w0 L w s2 s3 e f b c d
section
variable {D B:Nat} {w0 w w':qy} {L:Nat} {s2 s3 s8 s9 s14 s15 s61:qz}
theorem zF9 {i:Nat} (h:∀b∈ibL++[75,76],L.testBit b=yD->L.testBit 0=yD) (a:L.testBit 0=yD\/i∉ibL++[75,76]):∀b∈ibL++[75,76],(L|||1<<<i).testBit b=yD->(L|||1<<<i).testBit 0=yD:=by
 intro b d c;rcases a with a|a
 ·exact bm a
 ·rw[bt (show b≠i from fun e=>a (e▸d))]at c;exact bm (h b d c)
theorem st0 (h:IW D B w0 L w s2 s3 s8 s9 s14 s15 s61) (f:L.testBit 0=yE):IW D B w0 (L|||1<<<0) (w.alloc (.map #[] 0)) s2 (.map (qw w.heap.size)) s8 s9 s14 s15 s61:=by
 have no:∀b∈ibL++[75,76],L.testBit b=yE:=fun b d=>by
  cases e:L.testBit b with
  |false=>rfl
  |true=>have:=h.cl b d e;rw[f]at this;cases this
 have i:∀b∈ibL++[75,76],b≠0:=z8
 have a:=qP4 h.le h.bl.size;refine⟨fun _=>⟨w.heap.size,#[],0,rfl,a,zAh w _,zX0 (fun b d=> ?_)⟩,fun c=>h.i5 (by rwa[bt z8]at c),fun c=>h.i6 (by rwa[bt z8]at c),fun c=>h.i12 (by rwa[bt z8]at c),fun c=>h.i13 (by rwa[bt z8]at c),fun c=> ?_,fun c=> ?_,h.bl.trans ((yN _ _).alloc a _),h.le,fun k g=>bm (h.pre k g),fun b d j=>bs⟩
 ·rw[bt (i b (List.mem_append_left _ d))];exact no b (List.mem_append_left _ d)
 ·rw[bt z8,no 75 z8]at c;cases c
 ·rw[bt z8,no 76 z8]at c;cases c
theorem st5 (h:IW D B w0 L w s2 s3 s8 s9 s14 s15 s61) (x:Nat) (b:yI w.heap.size w w'):IW D B w0 (L|||1<<<5) w' s2 s3 (zBy x) s9 s14 s15 s61:=
 ⟨fun a=>((h.mp (by rwa[bt z8]at a)).other z8).keep b,fun _=>⟨x,rfl⟩,fun a=>h.i6 (by rwa[bt z8]at a),fun a=>h.i12 (by rwa[bt z8]at a),fun a=>h.i13 (by rwa[bt z8]at a),fun a=>h.i75 (by rwa[bt z8]at a),fun a=>h.i76 (by rwa[bt z8]at a),h.bl.trans (b.mono (qP4 h.le h.bl.size)),h.le,fun k c=>bm (h.pre k c),zF9 h.cl (.inr z8)⟩
theorem qHw (h:IW D B w0 L w s2 s3 s8 s9 s14 s15 s61) (x:Nat) (b:yI w.heap.size w w'):IW D B w0 (L|||1<<<12) w' s2 s3 s8 s9 (zBy x) s15 s61:=
 ⟨fun a=>((h.mp (by rwa[bt z8]at a)).other z8).keep b,fun a=>h.i5 (by rwa[bt z8]at a),fun a=>h.i6 (by rwa[bt z8]at a),fun _=>⟨x,rfl⟩,fun a=>h.i13 (by rwa[bt z8]at a),fun a=>h.i75 (by rwa[bt z8]at a),fun a=>h.i76 (by rwa[bt z8]at a),h.bl.trans (b.mono (qP4 h.le h.bl.size)),h.le,fun k c=>bm (h.pre k c),zF9 h.cl (.inr z8)⟩
theorem st6 (h:IW D B w0 L w s2 s3 s8 s9 s14 s15 s61) (x:Nat):IW D B w0 (L|||1<<<6) w s2 s3 s8 (row [104] (zBy x) yE) s14 s15 s61:=
 ⟨fun a=>((h.mp (by rwa[bt z8]at a)).other z8),fun a=>h.i5 (by rwa[bt z8]at a),fun _=>⟨x,rfl⟩,fun a=>h.i12 (by rwa[bt z8]at a),fun a=>h.i13 (by rwa[bt z8]at a),fun a=>h.i75 (by rwa[bt z8]at a),fun a=>h.i76 (by rwa[bt z8]at a),h.bl,h.le,fun k b=>bm (h.pre k b),zF9 h.cl (.inr z8)⟩
theorem qHv (h:IW D B w0 L w s2 s3 s8 s9 s14 s15 s61) (x:Nat):IW D B w0 (L|||1<<<13) w s2 s3 s8 s9 s14 (row [104] (zBy x) yE) s61:=
 ⟨fun a=>((h.mp (by rwa[bt z8]at a)).other z8),fun a=>h.i5 (by rwa[bt z8]at a),fun a=>h.i6 (by rwa[bt z8]at a),fun a=>h.i12 (by rwa[bt z8]at a),fun _=>⟨x,rfl⟩,fun a=>h.i75 (by rwa[bt z8]at a),fun a=>h.i76 (by rwa[bt z8]at a),h.bl,h.le,fun k b=>bm (h.pre k b),zF9 h.cl (.inr z8)⟩
theorem qHu (h:IW D B w0 L w s2 s3 s8 s9 s14 s15 s61) (b:L.testBit 0=yD):IW D B w0 (L|||1<<<75) w s2 s3 s8 s9 s14 s15 s3:=
 ⟨fun a=>(h.mp b).other z8,fun a=>h.i5 (by rwa[bt z8]at a),fun a=>h.i6 (by rwa[bt z8]at a),fun a=>h.i12 (by rwa[bt z8]at a),fun a=>h.i13 (by rwa[bt z8]at a),fun _=>rfl,fun a=>h.i76 (by rwa[bt z8]at a),h.bl,h.le,fun k c=>bm (h.pre k c),zF9 h.cl (.inl b)⟩
theorem qHt (h:IW D B w0 L w s2 s3 s8 s9 s14 s15 s61) (b:L.testBit 0=yD) (e:s61=s3):IW D B w0 (L|||1<<<76) w s61 s3 s8 s9 s14 s15 s61:=
 ⟨fun a=>(h.mp b).other z8,fun a=>h.i5 (by rwa[bt z8]at a),fun a=>h.i6 (by rwa[bt z8]at a),fun a=>h.i12 (by rwa[bt z8]at a),fun a=>h.i13 (by rwa[bt z8]at a),fun a=>h.i75 (by rwa[bt z8]at a),fun _=>e,h.bl,h.le,fun k c=>bm (h.pre k c),zF9 h.cl (.inl b)⟩
theorem stI {i b:Nat} {k:List UInt8} {v:qz} (h:IW D B w0 L w s2 s3 s8 s9 s14 s15 s61) (n:L.testBit 0=yD) (m:zF4[i]? =qw k) (p:ibL[i]? =qw b) (s:L.testBit b=yE) (hv:2<=i->(zQg D)[i]? =qw v):
  ∃w',(Instr.mapUpdate zBt s3 (str k) v).run yG w= .ok () w'/\IW D B w0 (L|||1<<<b) w' s2 s3 s8 s9 s14 s15 s61:=by
 obtain⟨M,H,c,rfl,o,q,r⟩:=h.mp n;obtain⟨t,u⟩:=qA0 (c:=c) r m p s hv;obtain⟨w',z,y,a⟩:=qDs v q t;have g:=zPq p;have ne:∀x∈ibL,x≠5/\x≠6/\x≠12/\x≠13/\x≠75/\x≠76:=z8
 obtain⟨F,G,e,f,d,j⟩:=ne b g;exact⟨w',z,fun _=>⟨M,_,_,rfl,o,y,by rw[Array.toList_push];exact u⟩,fun l=>h.i5 (by rwa[bt F.symm]at l),fun l=>h.i6 (by rwa[bt G.symm]at l),fun l=>h.i12 (by rwa[bt e.symm]at l),fun l=>h.i13 (by rwa[bt f.symm]at l),fun l=>h.i75 (by rwa[bt d.symm]at l),fun l=>h.i76 (by rwa[bt j.symm]at l),h.bl.trans (a.mono o),h.le,fun k m=>bm (h.pre k m),zF9 h.cl (.inl n)⟩
end
theorem qAn (D:Nat) (w:qy):IW D w.heap.size w L0 w.drew (.map qx) yJ yJ yJ yJ yJ yJ:=by
 have no:∀b∈zL7,L0.testBit b=yE:=z8
 have g:∀b∈zL7,L0.testBit b=yD->False:=fun b a h=>by rw[no b a]at h;cases h
 exact⟨fun h=>(g 0 z8 h).elim,fun h=>(g 5 z8 h).elim,fun h=>(g 6 z8 h).elim,fun h=>(g 12 z8 h).elim,fun h=>(g 13 z8 h).elim,fun h=>(g 75 z8 h).elim,fun h=>(g 76 z8 h).elim,(yN _ _).drew,qPq _,fun k c=>c,fun b a h=>(g b ((by decide:∀b∈ibL++[75,76],b∈zL7) b a) h).elim⟩
theorem qFu {D B:Nat} {w0 w:qy} {L:Nat} {s2 s3 o p e f g:qz} (h:IW D B w0 L w s2 s3 o p e f g) (d:∀i,i<77->L.testBit i=yD):∃M a c,s2= .map (qw M)/\B<=M/\w.heap[M]? =qw (.map a c)/\Knows D a.toList/\yI B w0 w:=by
 obtain⟨M,a,c,j,k,l,m⟩:=h.mp (d 0 z8);exact⟨M,a,c,(h.i76 (d 76 z8)).trans j,k,l,zU9 m (fun b n=>d b ((by decide:∀b∈ibL,b<77) b n)),h.bl⟩
end Sh
end Go.Proofs.YtppnakkaljbmbaaGreatDoor
