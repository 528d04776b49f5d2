/- Steps of a proof; no condition beyond what each states. -/
import Derived.Test.YtppnakkaljbmbaaGreatDoorZY00
import Derived.Test.YtppnakkaljbmbaaGreatDoorZY03
import Derived.Test.YtppnakkaljbmbaaGreatDoorZY08
set_option linter.unusedVariables false
set_option linter.unusedSimpArgs false
set_option maxRecDepth 100000
set_option maxHeartbeats 8000000
open List renaming length->kN
open Go.Proofs.YtppnakkaljbmbaaGreatDoor.Kit renaming Src->yt,zAg->yw,below_setCells->xA,zAr->xG,zHa->xI,zDa->xK,zAs->xM,spl->xO,zAq->xR
open Go.Proofs.YtppnakkaljbmbaaGreatDoor.Rle renaming bs->xB,Bld->kG
open Go.Proofs.YtppnakkaljbmbaaGreatDoor.Bt renaming pk->xU
open Go.RowKit
open Go.Proofs.Tryz
open Go.Value renaming int->qX,string->qY,slice->qZ,pointer->qc,tuple->qg,bool->qh,nilFunc->qj,iface->ql
open Go.IntKind renaming i64->qm,u8->qo
open Go.Obj renaming cells->qp
open Go.Ending renaming returned->qx
open Or renaming inr->qy,inl->qz
open Option renaming some->yA,none->yB
open Go renaming World->yC,Value->yD,TypeId->yE,Addr->yF,Calls->yG,undef->yN
open Bool renaming true->yH,false->yI
open Decidable renaming decide->yJ
open Go.Proofs.Tryz renaming prog->yK
open Go.RowKit renaming Hid->yL,Below->yM
open List renaming range->yO
open Go.World renaming cell?->yQ
open Go.RowKit.Below renaming refl->yR
open And renaming intro->yS
namespace Go.Proofs.YtppnakkaljbmbaaGreatDoor
namespace To
open Bt Tn Bk Sm Ix2 Sk
theorem qJ0 (c:Int) (n:Nat) (m: -9223372036854775808<=c) (o:c<=9223372036854775807) (h:0<n) (p:n<=100000) {V:Int} (i:(n:Int)=V):
  ∃k:Nat,k<n/\∀w,yG yK 10 #[qX qm c,qX qm V] w fun e w'=>e=qx (qX qm (k:Int))/\w'=w:=by
 obtain⟨d,hd⟩:∃d:Nat,(if c<0 then-(c+1)else c)=(d:Int):=⟨(if c<0 then-(c+1)else c).toNat,by split<;>omega⟩;have g:(d:Int).tmod (n:Int)=((d%n:Nat):Int):=by rw[qS5 za];rfl
 obtain⟨k,a⟩:=zB (d%n);have b:k<n:=by rw[<-a];exact qRf _ h
 rw[a]at g;rw[i]at g;refine⟨k,b,fun w=> ?_⟩;by_cases f:c<0
 .rw[qPr f]at hd;have j:IntKind.i64.wrap (c+1)=c+1:=qQa _ ⟨za,za⟩;have l:IntKind.i64.wrap (-(c+1))= -(c+1):=qQa _ ⟨za,za⟩;go_enter func10,ntmps10;go_wp2;go_ret;exact⟨rfl,rfl⟩
 .rw[qPt f]at hd;subst hd;go_enter func10,ntmps10;go_wp2;go_ret;exact⟨rfl,rfl⟩
theorem qM9 {P:Program} {ρ:Operand->yD} {o:Oper} {x y:Operand} {t:yE} {s u:ByteArray} {M:Nat} (a:o.op= .slice t x yB (yA y) yB) (d:ρ x=qY s) (e:ρ y=qX qm (M:Int)) (f:M<=s.size) (c:s.extract 0 M=u) (b:P.underlying t=yA .string) (w:yC):(execOp ρ o).run P w= .ok (.value (qY u)) w:=by
 unfold execOp;subst c;simp[a,d,e,go_sem,b];intro h;omega
theorem qJ1 {k:IntKind} {w w':yC} {a:Option yF} {len d:Nat} {g:Nat->Int×Int} (h:Kit.zEq k w a len d g) (j:yM w w w'):Kit.zEq k w' a len d g:=by
 refine⟨h.1,h.2.1,fun i hi=> ?_⟩;obtain⟨b,c,l,e,f,m,n⟩:=h.2.2 i hi;exact⟨b,c,l,by rw[j.cell (p:=⟨b,c+i*2,yB⟩) (qQk e)];exact e,by rw[j.cell (p:=⟨b,c+i*2+1,yB⟩) (qQk f)];exact f,m,n⟩
structure Pc (lev:Nat) (x:T) (ps:List T) (n:Nat):Prop where
 P:Ps lev ps n
 A:Arc lev ps (zCt lev ps) n
 flat:ps.flatten=x
 few:n<=64
theorem qOv (h:Nat) (j:1<=h) (l:h<=9) (x:T) (q:kN x<=500):∃n,Pc h x (pcs (40*h) x) n:=by
 have d:=zOh (40*h) za x;have a:=zJq (40*h) za x;have b:=zHv (40*h) za x;obtain⟨g,e⟩:=zB (pcs (40*h) x);rw[e]at d a b⊢;have c:∀k,pos g k<=32+45000*kN g:=fun k=>zW3 g (fun p m=>⟨(a p m).1,by have:=(a p m).2;omega⟩) k;have f:(zCt h g).size<=100000000:=by
  rw[zLr];have:=c (kN g);omega
 have o:∀k,k<kN g->g.getD k []=g[k]! :=fun k i=>by simp[qPz,qPu i]
 refine⟨kN g,⟨rfl,j,l,za,fun k i=> ?_,by rw[b];omega,fun k i=> ?_,fun k _=>by have:=c k;omega⟩,qGl h g j l f za a,b,za⟩
 .rw[qPz,qPu i];exact(a _ (qP9 i)).1
 .rw[zZv g k i];have:0<kN (zAn g[k]):=by
   rw[zE6,qP0,zAc];omega
  omega
theorem qNv (s:ByteArray) (a:Option yF) (len i:Nat) (g:Nat->Int×Int) (w:yC) (o:s.size<=60) (h:Kit.zEq qm w a len i g):yG yK 48 #[qY s,qZ a len i,qX qm 400] w fun e w'=>∃u:ByteArray,e=qx (qY u)/\u.size<=400/\yM w w w':=by
 have n:(if(400:Int)<(s.size:Int)then(400:Int)else(s.size:Int))=(s.size:Int):=qPt za;have b:min (s.size:Int) 400=(s.size:Int):=za
 have j:IntKind.i64.wrap ((400:Int)-(s.size:Int))=((400-s.size:Nat):Int):=by rw[qQa _ ⟨za,za⟩];omega
 have l:=zH (fun w' (k:yM w w w')=>Rle.qBu a len i g (400-s.size) za ((400-s.size:Nat):Int) rfl w' (qJ1 h k));have d:s.extract 0 s.size=s:=extract_all s;have m:=zH j;clear h j;go_enter func48,ntmps48;go_wp2_with fail;refine zS [] (fun _=>True) [0,0,2,0,12,17,0,0,0,256,0,1536,2176,4160,8224,32767] 16<|zu 0 7 (qY s)<|zu 1 8 (qY s)<|zu 2 9 (qX qm (s.size:Int))<|zu 3 10 (qX qm 400)<|zv 4 11 (qX qm (s.size:Int)) (fun w=>qKe (x:= .tmp 9) (y:= .tmp 10) (t:=3) (u:=3) zf zf zf b _)<|zv 5 12 (qY s) (fun w=>qM9 (t:=9) (x:= .tmp 7) (y:= .tmp 11) rfl zf zf (qPq _) d underlying9 _)<|zp [6,7,8,9,10,11,12]<|zk 13 (qZ a len i)<|zk 14 (qX qm 400)<|zk 15 (qY s)<|zk 16 (qX qm (s.size:Int))<|zk 17 (qX qm 400)<|zt 18 (qX qm (s.size:Int)) (qKe (x:= .tmp 16) (y:= .tmp 17) (t:=3) (u:=3) zf zf zf b _)<|zt 19 (qX qm ((400-s.size:Nat):Int)) (Kit.zM6 (x:= .tmp 14) (y:= .tmp 18) (t:=3) (u:=3) zf zf zf m.out _)<|zn<|zx 13 20 16 #[qZ a len i,qX qm ((400-s.size:Nat):Int)] (l.out w.drew (yR _ _).drew)<| ?_
 rintro e w2 ⟨u,rfl,p,f⟩;have c:s.size+u.size<=9223372036854775807:=za
 refine⟨_,rfl,qy (qy trivial),?_⟩;refine zp [14,15]<|zt 21 (qY (s++u)) (qLp (t:=9) (t':=9) (x:= .tmp 12) (y:= .tmp 20) zf zf zf c)<|zk 6 (qY (s++u))<|zn<|zE<| ?_
 simp only[zP,zI,Act.put,qPx,qPw,qPy];go_wp2;go_ret;exact⟨s++u,rfl,by rw[ByteArray.size_append];omega,(yR _ _).drew.trans f⟩
theorem zY7 (s:ByteArray) (a:Option yF) (len f:Nat) (g:Nat->Int×Int) (w:yC) (j:s.size<=maxLen) (h:Kit.zEq qm w a len f g):yG yK 8 #[qY s,qZ a len f,qX qm 400] w fun e w'=>∃u:ByteArray,e=qx (qY u)/\u.size<=400/\yM w w w':=by
 obtain⟨M,t,n,m,o,b,c⟩:=Kit.zRp s 60 60 rfl;have l:min (s.size:Int) 60=(M:Int):=by have:=c.out;omega
 have i:=zH (qNv t a len f g w b h);unfold maxLen at j;clear h;go_enter func8,ntmps8;go_wp2_with fail;(with_reducible refine i.out.mono ?_);rintro e p ⟨u,rfl,k,d⟩;go_wp2;go_ret;exact⟨u,rfl,k,d⟩
end To
namespace Sh
open Bt Zr St
abbrev zCb:ByteArray:=⟨#[97,98]⟩
abbrev zBn:ByteArray:=⟨#[54,49,54,50]⟩
theorem qF2 (w:yC):yG yK 273 #[qY zCb] w fun e w'=>e=qx (qY zBn)/\yM w w w':=by
 obtain⟨b,r⟩:=zB w.heap.size;obtain⟨t,j⟩:=zB (w.alloc (qp #[qc yB,qZ yB 0 0] Rle.TB));have n:=yT (kG t b b []) (by rw[<-j,<-r];exact Rle.Bld.new w);have m:=yT (yM b w t) (by rw[<-j,<-r];exact(yR _ _).alloc (qPq _) _);have u:=yT (b<=t.heap.size) (by rw[<-j,zA,r];omega);obtain⟨y,HB⟩:=yU j r;rw[r];clear j r;go_enter func273,ntmps273;go_wp2;rw[HB.out,show w.alloc (qp #[qc yB,qZ yB 0 0] Rle.TB)=t from y.out];go_loopw [7] (fun iv wr=>∃k:Nat,k<=2/\iv=qX qm k/\yL (kG wr b b (([54,49,54,50]:List UInt8).take (2*k)))/\yL (yM b w wr)/\yL (b<=wr.heap.size)) (fun iv _=>2-(intOf iv).toNat)
 case atStart=>exact⟨0,za,rfl,n,m,u⟩
 case round=>
  clear n m u;obtain⟨k,I,rfl,h,i,q⟩:=hrel;have g:=zH (fun(W:yC) (l:List UInt8) (c:UInt8) (V:Int) (H:V=(c.toNat:Int)) (K:kN l<=100) (G:kG W b b l) (q:b<=W.heap.size)=>show yG yK 74 #[qc (yA ⟨b,0,yB⟩),qX qo V] W fun e w'=>e=qx .nilIface/\kG w' b b (l++[c])/\yM b W w'/\b<=w'.heap.size from by
   subst H;refine(Rle.zE7 b b l c W G za q).mono ?_;rintro e w' ⟨z,B,s,_,F⟩;exact⟨z,B,s,qP2 q F⟩)
  obtain rfl|rfl|rfl:k=0\/k=1\/k=2:=za
  .rw[show((0:Nat):Int)=0 from rfl];go_wp2_with fail;(with_reducible refine(g.out _ [] 54 _ zf zm h.out q.out).mono ?_);rintro e w2 ⟨rfl,d,f,a⟩;have X:=zH (yS d (yS (i.out.trans f) a));clear d f a h i q;go_wp2_with fail;(with_reducible refine(g.out _ [54] 49 _ zf zm X.out.1 X.out.2.2).mono ?_);rintro e x ⟨rfl,d,f,a⟩;have Y:=zH (yS d (yS (X.out.2.1.trans f) a));clear d f a X g;go_wp2;go_roundw
   case rel=>exact⟨1,za,rfl,zH Y.out.1,zH Y.out.2.1,zH Y.out.2.2⟩
   case measure=>exact z8
  .rw[show((1:Nat):Int)=1 from rfl];go_wp2_with fail;(with_reducible refine(g.out _ [54,49] 54 _ zf zm h.out q.out).mono ?_);rintro e w2 ⟨rfl,d,f,a⟩;have X:=zH (yS d (yS (i.out.trans f) a));clear d f a h i q;go_wp2_with fail;(with_reducible refine(g.out _ [54,49,54] 50 _ zf zm X.out.1 X.out.2.2).mono ?_);rintro e x ⟨rfl,d,f,a⟩;have Y:=zH (yS d (yS (X.out.2.1.trans f) a));clear d f a X g;go_wp2;go_roundw
   case rel=>exact⟨2,za,rfl,zH Y.out.1,zH Y.out.2.1,zH Y.out.2.2⟩
   case measure=>exact z8
  .rw[show((2:Nat):Int)=2 from rfl];obtain⟨o,p⟩:=yU (Rle.zD0 b b _ wr h.out q.out) i.out;clear h i g;go_wp2_with fail;(with_reducible refine o.out.mono ?_);rintro e x ⟨rfl,s,_⟩;have Y:=zH (p.out.trans s);clear s o;go_wp2;go_ret;exact⟨rfl,Y.out⟩
end Sh
namespace Sh
open Bt Zr Front Ch Sq St
abbrev zVd:ByteArray:=⟨#[48,49,50,51,52,53,54,55,56,57,97,98,99,100,101,102]⟩
theorem qHk (V:Int) (q:Nat) (a:Lib.indexByte zVd.data.toList V.toNat.toUInt8=(q:Int)) (w:yC):yG yK 272 #[qY zVd,qX qo V] w fun e w'=>e=qx (qX qm (q:Int))/\w'=w:=by
 have h:=strings_IndexByte zVd V w;rw[a]at h;exact h
def hv (k:Nat):Int×Int:=match k with
 |0=>(0,0)
 |1=>(6,0)
 |2=>(97,0)
 |3=>(97,6)
 |_=>(97,98)
abbrev TY_:yE:=5
theorem zWb (w:yC):yG yK 228 #[qY zBn] w fun e w'=>e=qx (qg #[qY zCb,qX qm 0])/\yM w w w':=by
 obtain⟨b,I⟩:=zB w.heap.size;obtain⟨K,f⟩:=zB (w.alloc (qp #[qX qo 0,qX qo 0] TY_));have L:=yT (K.heap[b]? =yA (qp #[qX qo (hv 0).1,qX qo (hv 0).2] TY_)) (by rw[<-f,<-I];exact zAh w _);have l:=yT (yM b w K) (by rw[<-f,<-I];exact(yR _ _).alloc (qPq _) _);have t:(Instr.makeSlice 109 (qX qm 2) (qX qm 2)).run yK w= .ok (qZ (yA ⟨b,0,yB⟩) 2 2) K:=by
  have m:(prog.info? TY_).map (fun i=>(i.zero,i.size,i.bytes))=yA (yA (qX qo 0),1,1):=zf
  obtain⟨i,hi,o,h,r⟩:=qRv m;have M:=run_makeSlice (P:=yK) w 109 TY_ i _ underlying109 hi o qm qm 2 2 za za (by rw[h];decide) (by rw[r];decide) za;rw[h,show madeCells (Value.int qo 0).cells (Int.toNat 2*1)= #[qX qo 0,qX qo 0]from zf]at M;rw[<-f,<-I];exact M
 have HB:=zH I;rw[I];clear f I;go_enter func228,ntmps228;go_wp2;clear t;go_loopw [17] (fun iv wr=>∃k:Nat,k<=4/\iv=qX qm k/\yL (wr.heap[b]? =yA (qp #[qX qo (hv k).1,qX qo (hv k).2] TY_))/\yL (yM b w wr)) (fun iv _=>4-(intOf iv).toNat)
 case atStart=>exact⟨0,za,rfl,L,l⟩
 case round=>
  clear L l;obtain⟨k,S,rfl,d,a⟩:=hrel;obtain⟨z,B,O,R⟩:=zAf d.out;have x:=zH (fun(V:Int) (q:Nat) (y:Lib.indexByte zVd.data.toList V.toNat.toUInt8=(q:Int)) (w:yC)=>qHk V q y w);obtain rfl|rfl|rfl|rfl|rfl:k=0\/k=1\/k=2\/k=3\/k=4:=za
  .rw[show((0:Nat):Int)=0 from rfl];obtain⟨G,F⟩:=yU (fun(V:Int) (y:V=(hv 1).1)=>show(wr.setCell ⟨b,0,yB⟩ (qX qo V)).heap[b]? =yA (qp #[qX qo (hv 1).1,qX qo (hv 1).2] TY_)from by subst y;exact zA3 0 _ d.out) (fun(V:Int)=>a.out.setCell (p:=⟨b,0,yB⟩) (qPq _) (qX qo V));unfold hv at z B;simp only at z B;go_wp2_with fail;(with_reducible refine(x.out _ 6 zf _).mono ?_);rintro e w2 ⟨rfl,rfl⟩;clear d a x;rw[show((6:Nat):Int)=6 from rfl];go_wp2;go_roundw
   case rel=>exact⟨1,za,rfl,zH (G.out _ zf),zH (F.out _)⟩
   case measure=>exact z8
  .rw[show((1:Nat):Int)=1 from rfl];obtain⟨G,F⟩:=yU (fun(V:Int) (y:V=(hv 2).1)=>show(wr.setCell ⟨b,0,yB⟩ (qX qo V)).heap[b]? =yA (qp #[qX qo (hv 2).1,qX qo (hv 2).2] TY_)from by subst y;exact zA3 0 _ d.out) (fun(V:Int)=>a.out.setCell (p:=⟨b,0,yB⟩) (qPq _) (qX qo V));unfold hv at z B;simp only at z B;go_wp2_with fail;(with_reducible refine(x.out _ 1 zf _).mono ?_);rintro e w2 ⟨rfl,rfl⟩;clear d a x;rw[show((1:Nat):Int)=1 from rfl];go_wp2;go_roundw
   case rel=>exact⟨2,za,rfl,zH (G.out _ zf),zH (F.out _)⟩
   case measure=>exact z8
  .rw[show((2:Nat):Int)=2 from rfl];obtain⟨G,F⟩:=yU (fun(V:Int) (y:V=(hv 3).2)=>show(wr.setCell ⟨b,1,yB⟩ (qX qo V)).heap[b]? =yA (qp #[qX qo (hv 3).1,qX qo (hv 3).2] TY_)from by subst y;exact zA3 1 _ d.out) (fun(V:Int)=>a.out.setCell (p:=⟨b,1,yB⟩) (qPq _) (qX qo V));unfold hv at z B;simp only at z B;go_wp2_with fail;(with_reducible refine(x.out _ 6 zf _).mono ?_);rintro e w2 ⟨rfl,rfl⟩;clear d a x;rw[show((6:Nat):Int)=6 from rfl];go_wp2;go_roundw
   case rel=>exact⟨3,za,rfl,zH (G.out _ zf),zH (F.out _)⟩
   case measure=>exact z8
  .rw[show((3:Nat):Int)=3 from rfl];obtain⟨G,F⟩:=yU (fun(V:Int) (y:V=(hv 4).2)=>show(wr.setCell ⟨b,1,yB⟩ (qX qo V)).heap[b]? =yA (qp #[qX qo (hv 4).1,qX qo (hv 4).2] TY_)from by subst y;exact zA3 1 _ d.out) (fun(V:Int)=>a.out.setCell (p:=⟨b,1,yB⟩) (qPq _) (qX qo V));unfold hv at z B;simp only at z B;go_wp2_with fail;(with_reducible refine(x.out _ 2 zf _).mono ?_);rintro e w2 ⟨rfl,rfl⟩;clear d a x;rw[show((2:Nat):Int)=2 from rfl];go_wp2;go_roundw
   case rel=>exact⟨4,za,rfl,zH (G.out _ zf),zH (F.out _)⟩
   case measure=>exact z8
  .rw[show((4:Nat):Int)=4 from rfl];have g:yt wr (yA ⟨b,0,yB⟩) (([97,98]:List UInt8).map Kit.zAe):=by
    intro j u H
    match j,H with
    |0,H=>exact⟨_,_,rfl,by simp at H;subst H;exact z⟩
    |1,H=>exact⟨_,_,rfl,by simp at H;subst H;exact B⟩
   have N:=Kit.Src.text (P:=yK) (n:=2) (c:=2) (src:=109) (dst:=9) g rfl underlying109 underlying5 underlying9;have s:=zH a.out;clear d a x g;go_wp2;go_ret2;exact⟨rfl,s.out⟩
end Sh
namespace Sh
open Bt Zr Wg St Sm
abbrev TBy:yE:=379
abbrev tOk:ByteArray:=⟨#[111,107]⟩
abbrev zM2:ByteArray:=⟨#[111,107,10]⟩
abbrev zA5:ByteArray:=⟨#[115,97,121]⟩
abbrev zJh:ByteArray:=⟨#[115,97,121,32,54,49,54,50,10]⟩
theorem qBy (s:ByteArray) (w:yC):(Instr.typeAssert (ql zAk (qY s)) 20 TBy yH).run yK w= .ok (qg #[qY ⟨#[]⟩,qh yI]) w:=zf
theorem zWk (s:ByteArray) (w:yC):(Instr.typeAssert (ql zAk (qY s)) 20 3 yH).run yK w= .ok (qg #[qX qm 0,qh yI]) w:=zf
theorem zWi (s:ByteArray) (w:yC):(Instr.typeAssert (ql zAk (qY s)) 20 65 yH).run yK w= .ok (qg #[qX .u32 0,qh yI]) w:=zf
theorem zWl (s:ByteArray) (w:yC):(Instr.typeAssert (ql zAk (qY s)) 20 26 yH).run yK w= .ok (qg #[qX qm 0,qh yI]) w:=zf
theorem zWj (s:ByteArray) (w:yC):(Instr.typeAssert (ql zAk (qY s)) 20 zAk yH).run yK w= .ok (qg #[qY s,qh yH]) w:=zf
theorem qEu (s:ByteArray) (w:yC):(Instr.typeAssert (ql TBy (qY s)) 20 TBy yH).run yK w= .ok (qg #[qY s,qh yH]) w:=zf
theorem qDc (b:Nat) (w:yC) (h:w.cell? ⟨b,0,yB⟩=yA (ql zAk (qY tOk))):
  yG yK 229 #[qZ (yA ⟨b,0,yB⟩) 1 1] w fun e w'=>e=qx (qY zM2)/\yM w w w':=by
 obtain⟨B,t⟩:=zB w.heap.size;obtain⟨H,HB⟩:=yU h t;rw[t];clear h t;go_enter func229,ntmps229;go_wp2;go_loopw [3,13] (fun M iv wr=>∃k:Nat,k<=1/\iv=qX qm k/\∃p c,M=qZ p k c/\yL (Kit.Own wr B zAk p k c (([qY tOk]:List yD).take k))/\yL (yM B w wr)) (fun _ iv _=>1-(intOf iv).toNat)
 case atStart=>exact⟨0,za,rfl,yB,0,rfl,zH (Kit.Own.start _ _ _),zH (yR _ _)⟩
 case round=>
  obtain⟨k,z,rfl,p,c,rfl,d,a⟩:=hrel;obtain rfl|rfl:k=0\/k=1:=za
  .rw[show((0:Nat):Int)=0 from rfl];have x0:wr.cell? ⟨b,0,yB⟩=yA (ql zAk (qY tOk)):=by rw[a.out.cell (p:=⟨b,0,yB⟩) (by rw[<-HB.out];exact qQk H.out)];exact H.out
   have r:B<=wr.heap.size:=by have:=a.out.size;rw[HB.out]at this;exact this
   obtain⟨N,c1,Z,L,F,y⟩:=Kit.Own.app (ty:=zBf) zL2 (d.out.alloc (qp #[qY tOk] zAk)) (yA ⟨wr,0,yB⟩) 1 1 [qY tOk] (xM wr (qY tOk) zAk) rfl (fun h=>by cases h) (by simp[Value.oneCell']) (by unfold maxLen;omega) za zq;have f:=(d.out.alloc (qp #[qY tOk] zAk)).block;obtain⟨I,m⟩:=yU F ((a.out.alloc r (qp #[qY tOk] zAk)).trans (xR y zq (fun k z=>f k z)));have S:=qBy tOk;have V:=zWk tOk;have W:=zWi tOk;have X:=zWl tOk;have Y:=zWj tOk;clear d a F y f;go_wp2_with (at_builtin;refine xG rfl (.tmp 59) (.tmp 61) zBf rfl rfl rfl L ?_);go_roundw
   case rel=>exact⟨1,za,rfl,N,c1,rfl,I,m⟩
   case measure=>exact z8
  .rw[show((1:Nat):Int)=1 from rfl];have r:B<=wr.heap.size:=by have:=a.out.size;rw[HB.out]at this;exact this
   obtain⟨g,rfl,_,o,n,u,_⟩:=d.out.at_ za;have s:=zH (strings_Join g 0 c [tOk] ⟨#[32]⟩ wr (fun j x q=>by
    match j,q with
    |0,q=>
     simp at q;subst q;rw[qRi,u 0 za];rfl) o zm (by simpa using n) qW)
   rw[show(⟨(Lib.join ([tOk].map (·.data.toList)) (⟨#[32]⟩:ByteArray).data.toList).toArray⟩:ByteArray)=tOk from rfl,show([tOk]:List ByteArray).length=1 from rfl]at s;have O:tOk++(⟨#[10]⟩:ByteArray)=zM2:=rfl;have P:tOk.size=2:=rfl;have R:(⟨#[10]⟩:ByteArray).size=1:=rfl;obtain⟨l,K⟩:=yU a.out r;clear d a u r;go_wp2_with fail;(with_reducible refine s.out.mono ?_);rintro e w2 ⟨rfl,i⟩;have G:=zH (l.out.trans (i.mono K.out));clear i s;go_wp2;go_ret;exact⟨rfl,G.out⟩
theorem qAi (b:Nat) (w:yC) (h:w.cell? ⟨b,0,yB⟩=yA (ql zAk (qY zA5))) (W:w.cell? ⟨b,1,yB⟩=yA (ql TBy (qY zCb))):
  yG yK 229 #[qZ (yA ⟨b,0,yB⟩) 2 2] w fun e w'=>e=qx (qY zJh)/\yM w w w':=by
 obtain⟨B,M⟩:=zB w.heap.size;obtain⟨H,S,HB⟩:=yV h W M;rw[M];clear h W M;go_enter func229,ntmps229;go_wp2;go_loopw [3,13] (fun Z iv wr=>∃k:Nat,k<=2/\iv=qX qm k/\∃p c,Z=qZ p k c/\yL (Kit.Own wr B zAk p k c (([qY zA5,qY zBn]:List yD).take k))/\yL (yM B w wr)) (fun _ iv _=>2-(intOf iv).toNat)
 case atStart=>exact⟨0,za,rfl,yB,0,rfl,zH (Kit.Own.start _ _ _),zH (yR _ _)⟩
 case round=>
  obtain⟨k,G,rfl,p,c,rfl,d,a⟩:=hrel;have I:B<=wr.heap.size:=by have:=a.out.size;rw[HB.out]at this;exact this
  obtain rfl|rfl|rfl:k=0\/k=1\/k=2:=za
  .rw[show((0:Nat):Int)=0 from rfl];have x0:wr.cell? ⟨b,0,yB⟩=yA (ql zAk (qY zA5)):=by rw[a.out.cell (p:=⟨b,0,yB⟩) (by rw[<-HB.out];exact qQk H.out)];exact H.out
   obtain⟨P,c1,w1,O,z,y⟩:=Kit.Own.app (ty:=zBf) zL2 (d.out.alloc (qp #[qY zA5] zAk)) (yA ⟨wr,0,yB⟩) 1 1 [qY zA5] (xM wr (qY zA5) zAk) rfl (fun h=>by cases h) (by simp[Value.oneCell']) (by unfold maxLen;omega) za zq;have f:=(d.out.alloc (qp #[qY zA5] zAk)).block;obtain⟨L,n⟩:=yU z ((a.out.alloc I (qp #[qY zA5] zAk)).trans (xR y zq (fun k G=>f k G)));have X:=qBy zA5;have t2:=zWk zA5;have t3:=zWi zA5;have t4:=zWl zA5;have t5:=zWj zA5;clear d a z y f;go_wp2_with (at_builtin;refine xG rfl (.tmp 59) (.tmp 61) zBf rfl rfl rfl O ?_);go_roundw
   case rel=>exact⟨1,za,rfl,P,c1,rfl,L,n⟩
   case measure=>exact z8
  .rw[show((1:Nat):Int)=1 from rfl];have x1:wr.cell? ⟨b,1,yB⟩=yA (ql TBy (qY zCb)):=by rw[a.out.cell (p:=⟨b,1,yB⟩) (by rw[<-HB.out];exact qQk S.out)];exact S.out
   have X:=qEu zCb;have hne:¬zCb.toList.isEmpty=yH:=by rw[qTa];decide
   obtain⟨V,i,r,F⟩:=yX (qF2 wr) a.out d.out I;clear d a;go_wp2_with fail;(with_reducible refine V.out.mono ?_);rintro e R ⟨rfl,l⟩;have m:=r.out.below l (qPq _);have s:B<=R.heap.size:=qP2 F.out l.size;obtain⟨P,c1,w4,O,z,y⟩:=Kit.Own.app (ty:=zBf) zL2 (m.alloc (qp #[qY zBn] zAk)) (yA ⟨R,0,yB⟩) 1 1 [qY zBn] (xM R (qY zBn) zAk) rfl (fun h=>by cases h) (by simp[Value.oneCell']) (by unfold maxLen;omega) za zq;have f:=(m.alloc (qp #[qY zBn] zAk)).block;obtain⟨L,n⟩:=yU z (((i.out.trans (l.mono F.out)).alloc s (qp #[qY zBn] zAk)).trans (xR y zq (fun k G=>f k G)));clear z y f l m V i r x1 X hne;go_wp2_with (at_builtin;refine xG rfl (.tmp 26) (.tmp 29) zBf rfl rfl rfl O ?_);go_roundw
   case rel=>exact⟨2,za,rfl,P,c1,rfl,L,n⟩
   case measure=>exact z8
  .rw[show((2:Nat):Int)=2 from rfl];obtain⟨g,rfl,_,u,t,N,_⟩:=d.out.at_ za;have K:=zH (strings_Join g 0 c [zA5,zBn] ⟨#[32]⟩ wr (fun j x q=>by
    match j,q with
    |0,q=>
     simp at q;subst q;rw[qRi,N 0 za];rfl
    |1,q=>
     simp at q;subst q;rw[N 1 za];rfl) u zm (by simpa using t) qW)
   rw[show(⟨(Lib.join ([zA5,zBn].map (·.data.toList)) (⟨#[32]⟩:ByteArray).data.toList).toArray⟩:ByteArray)=⟨#[115,97,121,32,54,49,54,50]⟩from rfl,show([zA5,zBn]:List ByteArray).length=2 from rfl]at K;have a0:(⟨#[115,97,121,32,54,49,54,50]⟩:ByteArray)++(⟨#[10]⟩:ByteArray)=zJh:=rfl;have a1:(⟨#[115,97,121,32,54,49,54,50]⟩:ByteArray).size=8:=rfl;have a2:(⟨#[10]⟩:ByteArray).size=1:=rfl;obtain⟨i,F⟩:=yU a.out I;clear d a N I;go_wp2_with fail;(with_reducible refine K.out.mono ?_);rintro e w2 ⟨rfl,o⟩;have Y:=zH (i.out.trans (o.mono F.out));clear o K;go_wp2;go_ret;exact⟨rfl,Y.out⟩
theorem qFg (b:Nat) (w:yC) (h:w.cell? ⟨b,0,yB⟩=yA (ql zAk (qY tOk))):
  yG yK 173 #[qX qm 0,qZ (yA ⟨b,0,yB⟩) 1 1] w fun e w'=>e=qx (qY zM2)/\yM w w w':=by
 have H:=zH (qDc b w h);clear h;go_enter func173,ntmps173;go_wp2_with fail;(with_reducible refine H.out.mono ?_);rintro e w2 ⟨rfl,a⟩;go_wp2;go_ret;exact⟨rfl,a⟩
theorem qC6 (b:Nat) (w:yC) (h:w.cell? ⟨b,0,yB⟩=yA (ql zAk (qY zA5))) (c:w.cell? ⟨b,1,yB⟩=yA (ql TBy (qY zCb))):
  yG yK 173 #[qX qm 0,qZ (yA ⟨b,0,yB⟩) 2 2] w fun e w'=>e=qx (qY zJh)/\yM w w w':=by
 have H:=zH (qAi b w h c);clear h c;go_enter func173,ntmps173;go_wp2_with fail;(with_reducible refine H.out.mono ?_);rintro e w2 ⟨rfl,a⟩;go_wp2;go_ret;exact⟨rfl,a⟩
end Sh
namespace Sh
open Zr Ch Sq St Bk Sm
abbrev TDk:yE:=215
abbrev zJc:yE:=291
def P1:List (List UInt8):=pcs (40*1) [97,98]
def zC4:ByteArray:=zCt 1 P1
theorem qH0:Arc 1 P1 zC4 (kN P1):=by
 have c:=zOh (40*1) za [97,98];have a:=zJq (40*1) za [97,98];have b:=zW3 P1 (fun p b=>⟨(a p b).1,by have:=(a p b).2;omega⟩) (kN P1);have d:kN P1<=1:=by unfold P1;simp at c⊢;omega
 exact qGl 1 P1 za za (by rw[zLr];omega) za a
theorem qCb:P1.flatten=[97,98]:=zHv (40*1) za [97,98]
def DK (w:yC) (D:Nat) (a:ByteArray):Prop:=w.heap[D]? =yA (qp #[qY a,qY ⟨#[]⟩,qY ⟨#[]⟩,qZ yB 0 0,qX qm 0,qX qm 0,qZ yB 0 0,qZ yB 0 0,qX qm 0,qh yI] TDk)
section
variable {w w':yC} {D:Nat} {a:ByteArray}
theorem DK.lt (h:DK w D a):D<w.heap.size:=zAd h
theorem DK.below (h:DK w D a) (b:yM w w w'):DK w' D a:=(b.block D h.lt).trans h
theorem DK.c0 (h:DK w D a):w.cell? ⟨D,0,yB⟩=yA (qY a):=by unfold DK at h;simp[yQ,h]
theorem DK.c9 (h:DK w D a):w.cell? ⟨D,9,yB⟩=yA (qh yI):=by unfold DK at h;simp[yQ,h]
theorem DK.fr (h:DK w D a) (j:Nat):w.frozen? ⟨D,j,yB⟩=yI:=by unfold DK at h;simp[World.frozen?,h]
theorem DK.set (h:DK w D a) (s:ByteArray):DK (w.setCell ⟨D,0,yB⟩ (qY s)) D s:=zA3 0 (qY s) h
end
theorem qFd (D:Nat) (a:ByteArray) (w:yC) (h:DK w D a):
  yG yK 211 #[qc (yA ⟨D,0,yB⟩),.agg #[qX qm 1,qX qm 0,qX qm 0,qY zCb]] w fun e w'=>e=qx (qY zM2)/\DK w' D zC4/\Upd w w' D:=by
 obtain⟨o,b⟩:=zB (w.alloc (qp #[qX qm 1,qX qm 0,qX qm 0,qY zCb] zJc));have f:yM w w o:=by rw[<-b];exact(yR _ _).alloc (qPq _) _
 have j:=yT (yG yK 9 #[qY zCb,qX qm 1] o fun e w'=>e=qx (qg #[qY zC4,qX qm 0])/\yM o o w') (zZ5 1 zCb [97,98] rfl zm za za o);obtain⟨F,t,z⟩:=yV b (h.below f) (Upd.of_below f (qP7 h.lt));clear f h b;obtain⟨s,m⟩:=zB zC4;rw[m]at j⊢;go_enter func211,ntmps211;go_wp2_with fail;rw[show w.alloc (qp #[qX qm 1,qX qm 0,qX qm 0,qY zCb] zJc)=o from F.out];(with_reducible refine j.out.mono ?_);rintro e w2 ⟨rfl,c⟩;have q:=t.out.below c;have c0:=q.c0;have L:=q.fr 0;have r:=q.set s;have u:=(z.out.trans (Upd.of_below c (qP7 t.out.lt))).trans (Upd.set (w:=w2) (K:=D) (i:=0) (v:=qY s));obtain⟨p,n⟩:=zB (w2.setCell ⟨D,0,yB⟩ (qY s));rw[n]at r u;obtain⟨x,k⟩:=zB (p.alloc (qp #[ql zAk (qY tOk)] 20));have d:yM p p x:=by rw[<-k];exact(yR _ _).alloc (qPq _) _
 have B:x.heap[p.heap.size]? =yA (qp #[ql zAk (qY tOk)] 20):=by rw[<-k];exact zAh p _
 obtain⟨l,y,H⟩:=yV (qFg p.heap.size x (by simp[yQ,B])) (r.below d) (u.trans (Upd.of_below d (qP7 r.lt)));clear c q j t z r u d B;go_wp2_with fail;(with_reducible refine l.out.mono ?_);rintro e M ⟨rfl,g⟩;obtain⟨G,I⟩:=yU (y.out.below g) (H.out.trans (Upd.of_below g (qP7 y.out.lt)));clear g;go_wp2;go_ret;exact⟨rfl,G.out,I.out⟩
theorem qG5 (D:Nat) (u x y:Int) (s:ByteArray) (w:yC) (h:DK w D zC4):
  yG yK 216 #[qc (yA ⟨D,0,yB⟩),.agg #[qX qm u,qX qm x,qX qm y,qY s]] w fun e w'=>e=qx (qY zJh)/\DK w' D zC4/\Upd w w' D:=by
 obtain⟨m,a⟩:=zB (w.alloc (qp #[qX qm u,qX qm x,qX qm y,qY s] zJc));have d:yM w w m:=by rw[<-a];exact(yR _ _).alloc (qPq _) _
 have g:=yT (yG yK 14 #[qY zC4] m fun e w'=>e=qx (qg #[qY zCb,qX qm 0])/\yM m m w') (by
  have h:=zZq 1 (kN P1) P1 zC4 qH0 (by rw[qCb];simp) m;rw[qCb]at h;exact h)
 obtain⟨z,l,r⟩:=yV a (h.below d) (Upd.of_below d (qP7 h.lt));clear d h a;obtain⟨H,k⟩:=zB zC4;rw[k]at g l⊢;have c0:=l.out.c0;go_enter func216,ntmps216;have a:=z.out;go_wp2_with fail;clear a;(with_reducible refine g.out.mono ?_);rintro e w2 ⟨rfl,b⟩;have n:=l.out.below b;have t:=r.out.trans (Upd.of_below b (qP7 l.out.lt));obtain⟨o,i⟩:=zB (w2.alloc (qp #[ql zAk (qY zA5),ql TBy (qY zCb)] 20));have c:yM w2 w2 o:=by rw[<-i];exact(yR _ _).alloc (qPq _) _
 have p:o.heap[w2.heap.size]? =yA (qp #[ql zAk (qY zA5),ql TBy (qY zCb)] 20):=by rw[<-i];exact zAh w2 _
 obtain⟨j,q,F⟩:=yV (qC6 w2.heap.size o (by simp[yQ,p]) (by simp[yQ,p])) (n.below c) (t.trans (Upd.of_below c (qP7 n.lt)));clear b g l r n t c p c0;go_wp2_with fail;(with_reducible refine j.out.mono ?_);rintro e I ⟨rfl,f⟩;obtain⟨B,G⟩:=yU (q.out.below f) (F.out.trans (Upd.of_below f (qP7 q.out.lt)));clear f;go_wp2;go_ret;exact⟨rfl,B.out,G.out⟩
end Sh
namespace Sh
open Hf Zr Sq Tn Bk
def AG (w:yC) (A:Nat) (a b c:Int) (s:ByteArray):Prop:=w.heap[A]? =yA (qp #[qX qm a,qX qm b,qX qm c,qY s] zJc)
theorem AG.lt {w:yC} {A:Nat} {a b c:Int} {s:ByteArray} (h:AG w A a b c s):A<w.heap.size:=zAd h
theorem qEs (A:Nat) (k d f:Int) (s:ByteArray) (w:yC) (h:AG w A k d f s):
  yG yK 172 #[qc (yA ⟨A,0,yB⟩),qX qm 0,qX qo 110,qY ⟨#[49]⟩] w fun e w'=>e=qx (qh yH)/\AG w' A 1 d f s/\Upd w w' A:=by
 have c:=yT (yG yK 226 #[qY ⟨#[49]⟩] w fun e w'=>e=qx (qg #[qX qm 1,.nilIface])/\yM w w w') ((strconv_Atoi ⟨#[49]⟩ 1 qW qW w).mono (fun e w' h=>⟨h.1,by obtain⟨_,t,rfl⟩:=h;exact Joins.below_bytesWorld _ _ _ _ (qPq _)⟩));have b:=zH (fun(w:yC)=>show yG yK 227 #[qX qm ((1:Nat):Int)] w fun e w'=>e=qx (qY ⟨#[49]⟩)/\w'=w from by
  have h:=strconv_Itoa_small 1 za w;rw[show(⟨(Lib.decDigits 1).toArray⟩:ByteArray)=⟨#[49]⟩from by first|kernel_rfl|(unfold Lib.decDigits;rfl)|(unfold Lib.decDigits;decide)]at h;exact h)
 rw[show((1:Nat):Int)=1 from rfl]at b;have H:=zH h;clear h;go_enter func172,ntmps172;go_wp2_with fail;(with_reducible refine c.out.mono ?_);rintro e j ⟨rfl,a⟩;have g:AG j A k d f s:=(a.block A H.out.lt).trans H.out;obtain⟨⟨c0,c1,c2,c3⟩,q,n,o,p⟩:=zDf g;have l:=yT (AG (j.setCell ⟨A,0,yB⟩ (qX qm 1)) A 1 d f s) (zA3 0 _ g);have m:=zH ((Upd.of_below a (qP7 H.out.lt)).trans (Upd.set (w:=j) (K:=A) (i:=0) (v:=qX qm 1)));clear g a c c1 c2 c3 n o p;go_wp2_with fail;(with_reducible refine(b.out _).mono ?_);rintro e r ⟨rfl,rfl⟩;go_wp2;go_ret;exact⟨rfl,l.out,m.out⟩
theorem qEt (A:Nat) (c d f:Int) (s:ByteArray) (w:yC) (h:AG w A c d f s):
  yG yK 172 #[qc (yA ⟨A,0,yB⟩),qX qm 1,qX qo 104,qY zBn] w fun e w'=>e=qx (qh yH)/\AG w' A c d f zCb/\Upd w w' A:=by
 have b:=zH (zWb w);have hne:¬zBn.toList.isEmpty=yH:=by rw[qTa];decide
 have H:=zH h;clear h;go_enter func172,ntmps172;go_wp2_with fail;(with_reducible refine b.out.mono ?_);rintro e j ⟨rfl,a⟩;have g:AG j A c d f s:=(a.block A H.out.lt).trans H.out;obtain⟨⟨c0,c1,c2,c3⟩,m,n,o,p⟩:=zDf g;have k:=yT (AG (j.setCell ⟨A,3,yB⟩ (qY zCb)) A c d f zCb) (zA3 3 _ g);have l:=zH ((Upd.of_below a (qP7 H.out.lt)).trans (Upd.set (w:=j) (K:=A) (i:=3) (v:=qY zCb)));clear g a b c1 c2 c0 n o m;go_wp2;go_ret;exact⟨rfl,k.out,l.out⟩
end Sh
namespace Sh
open Hf Bt Zr Front Wg Ch Sq Tn Rg Sm
section
variable {P:Program} {o:Oper} {a:Act} {w w':yC} {K:Act->yC->Prop} {Q:Exit->Act->yC->Prop}
theorem zA9 (v:yD) (hv:(execOp a.eval o).run P w= .ok (.value v) w') (h:K (a.put o.dst v) w'):Oper.wp P o a w K Q:=by
 unfold Oper.wp;rw[hv];exact h
theorem zBd (m x v:Operand) (t:yE) (f:o.op= .insert t m x v) {b d c:yD} (e:a.eval m=b) (i:a.eval x=d) (hv:a.eval v=c) (g:(Instr.mapUpdate t b d c).run P w= .ok () w') (h:K (a.put o.dst yN) w'):Oper.wp P o a w K Q:=by
 unfold Oper.wp;simp[execOp,f,e,i,hv,g,Result.andThen];exact h
theorem zHy (g:FuncId) (args:Array yD) {R:Ending->yC->Prop} (hv:(execOp a.eval o).run P w= .ok (.enter g args) w) (d:yG P g args w R) (h:∀e w',R e w'->∃v,e=qx v/\K (a.put o.dst v) w'):Oper.wp P o a w K Q:=by
 unfold Oper.wp;rw[hv,Oper.upon_enter];refine d.mono fun e b f=> ?_;obtain⟨v,rfl,c⟩:=h e b f;exact c
end
theorem bt {L i j:Nat} (h:j≠i):(L|||1<<<i).testBit j=L.testBit j:=by
 rw[qR6,qTc,qTd,qP1 (fun e=>h e.symm),Bool.or_false]
theorem bs {L i:Nat}:(L|||1<<<i).testBit i=yH:=by
 rw[qR6,qTc,qTd,qQ rfl,Bool.or_true]
theorem bm {L i j:Nat} (h:L.testBit j=yH):(L|||1<<<i).testBit j=yH:=by rw[qR6,h,Bool.true_or]
abbrev zBt:yE:=287
def str (l:List UInt8):yD:=qY ⟨l.toArray⟩
theorem str_inj {k l:List UInt8} (h:str k=str l):k=l:=by
 injection h with h
 injection h with h
 simpa using h
def row (a:List UInt8) (f:yD) (b:Bool):yD:= .agg #[str a,f,qh b]
def met (f D:Nat):yD:= .func (.func f) #[qc (yA ⟨D,0,yB⟩)] #[]
def zBy (b:Nat):yD:= .func (.func 266) #[] #[qc (yA ⟨b,0,yB⟩)]
def zF4:List (List UInt8):=[[97,114,99,104,105,118,101],[115,105,100,101,99,97,114],[112,97,99,107],[109,111,114,101],[116,117,114,110],[99,117,116],[98,121,116,101,115],[115,97,121],[105,110,100,101,120],[115,97,118,101],[111,112,101,110],[111,112,101,110,98,121],[114,101,97,100],[97,115,107],[115,116,101,112],[115,104,101,108,102],[114,101,97,100,101,114,115]]
def ibL:List Nat:=[7,14,18,22,26,30,34,38,42,46,50,54,58,62,66,70,74]
def zQg (D:Nat):List yD:=[yN,yN,row [110,104] (met 211 D) yI,
 row [110,104] (met 212 D) yI,
 row [110] (met 213 D) yI,
 row [110] (met 214 D) yI,
 row [] (met 215 D) yI,
 row [] (met 216 D) yI,
 row [] (met 217 D) yI,
 row [] (met 218 D) yI,
 row [110,110] (met 219 D) yI,
 row [110,110] (met 220 D) yI,
 row [110,110,110] (met 221 D) yH,
 row [110,110,110] (met 222 D) yH,
 row [110] (met 223 D) yH,
 row [] (met 224 D) yH,
 row [] (met 225 D) yH]
def MS:List Nat:=[0,0,0,4,8,18,32,65,0,0,512,1024,2336,4096,8193,0,32768,65536,131073,0,524288,1048576,2097153,0,8388608,16777216,33554433,0,134217728,268435456,536870913,0,2147483648,4294967296,8589934593,0,34359738368,68719476736,137438953473,0,549755813888,1099511627776,2199023255553,0,8796093022208,17592186044416,35184372088833,0,140737488355328,281474976710656,562949953421313,0,2251799813685248,4503599627370496,9007199254740993,0,36028797018963968,72057594037927936,144115188075855873,0,576460752303423488,1152921504606846976,2305843009213693953,0,9223372036854775808,18446744073709551616,36893488147419103233,0,147573952589676412928,295147905179352825856,590295810358705651713,0,2361183241434822606848,4722366482869645213696,9444732965739290427393,37778931862957161709567,75557863725914323419135]
def L0:Nat:=17630168202713342119710
def zL7:List Nat:=[0,5,6,7,12,13,14,18,22,26,30,34,38,42,46,50,54,58,62,66,70,74,75,76]
def FR (D:Nat) (s2 s3 d e a b c:yD):Act:=⟨#[(qc (yA ⟨D,0,yB⟩)),
 yN,
 s2,
 s3,
 (qc (yA ⟨D,0,yB⟩)),
 (qc (yA ⟨D,0,yB⟩)),
 (qc (yA ⟨D,0,yB⟩)),
 (qc (yA ⟨D,0,yB⟩)),
 d,
 e,
 (qc (yA ⟨D,0,yB⟩)),
 (qc (yA ⟨D,0,yB⟩)),
 (qc (yA ⟨D,0,yB⟩)),
 (qc (yA ⟨D,1,yB⟩)),
 a,
 b,
 (qc (yA ⟨D,0,yB⟩)),
 met 211 D,
 row [110,104] (met 211 D) yI,
 (qc (yA ⟨D,0,yB⟩)),
 met 212 D,
 row [110,104] (met 212 D) yI,
 (qc (yA ⟨D,0,yB⟩)),
 met 213 D,
 row [110] (met 213 D) yI,
 (qc (yA ⟨D,0,yB⟩)),
 met 214 D,
 row [110] (met 214 D) yI,
 (qc (yA ⟨D,0,yB⟩)),
 met 215 D,
 row [] (met 215 D) yI,
 (qc (yA ⟨D,0,yB⟩)),
 met 216 D,
 row [] (met 216 D) yI,
 (qc (yA ⟨D,0,yB⟩)),
 met 217 D,
 row [] (met 217 D) yI,
 (qc (yA ⟨D,0,yB⟩)),
 met 218 D,
 row [] (met 218 D) yI,
 (qc (yA ⟨D,0,yB⟩)),
 met 219 D,
 row [110,110] (met 219 D) yI,
 (qc (yA ⟨D,0,yB⟩)),
 met 220 D,
 row [110,110] (met 220 D) yI,
 (qc (yA ⟨D,0,yB⟩)),
 met 221 D,
 row [110,110,110] (met 221 D) yH,
 (qc (yA ⟨D,0,yB⟩)),
 met 222 D,
 row [110,110,110] (met 222 D) yH,
 (qc (yA ⟨D,0,yB⟩)),
 met 223 D,
 row [110] (met 223 D) yH,
 (qc (yA ⟨D,0,yB⟩)),
 met 224 D,
 row [] (met 224 D) yH,
 (qc (yA ⟨D,0,yB⟩)),
 met 225 D,
 row [] (met 225 D) yH,
 c],[]⟩
theorem rest_of:∀i,i<77->L0.testBit i=yI->i∈zL7:=qW
def zGt (D L:Nat) (a:List MapEntry):Prop:=
 (∀e∈a,∃(i:Nat) (k:List UInt8) (b:Nat),zF4[i]? =yA k/\ibL[i]? =yA b/\e.key=str k/\L.testBit b=yH/\(2<=i->(zQg D)[i]? =yA e.val))/\
 ∀(i b:Nat) (k:List UInt8),ibL[i]? =yA b->zF4[i]? =yA k->L.testBit b=yH->∃e∈a,e.key=str k
theorem key_inj {i j:Nat} {k:List UInt8} (hi:zF4[i]? =yA k) (a:zF4[j]? =yA k):i=j:=by
 have h:∀i,i<17->∀j,j<17->zF4[i]? =zF4[j]? ->i=j:=qW
 have lt:∀{n:Nat} {k},zF4[n]? =yA k->n<17:=fun{n k} h=>(qSj.1 h).1;exact h i (lt hi) j (lt a) (hi.trans a.symm)
theorem qF1 {i j b:Nat} (hi:ibL[i]? =yA b) (a:ibL[j]? =yA b):i=j:=by
 have h:∀i,i<17->∀j,j<17->ibL[i]? =ibL[j]? ->i=j:=qW
 have lt:∀{n:Nat} {k},ibL[n]? =yA k->n<17:=fun{n k} h=>(qSj.1 h).1;exact h i (lt hi) j (lt a) (hi.trans a.symm)
theorem zPq {i b:Nat} (hi:ibL[i]? =yA b):b∈ibL:=qSs hi
theorem zX0 {D L:Nat} (h:∀b∈ibL,L.testBit b=yI):zGt D L []:=
 ⟨fun e d=>(by cases d),fun i b k c _ a=>(by rw[h b (zPq c)]at a;cases a)⟩
theorem zU8 {D L j:Nat} {a:List MapEntry} (h:zGt D L a) (p:j∉ibL):zGt D (L|||1<<<j) a:=by
 refine⟨fun e o=> ?_,fun i b k d q c=> ?_⟩
 .obtain⟨i,k,b,f,g,l,m,n⟩:=h.1 e o;exact⟨i,k,b,f,g,l,bm m,n⟩
 .rw[bt (show b≠j from fun e=>p (e▸zPq d))]at c;exact h.2 i b k d q c
theorem zOy {D L:Nat} {a:List MapEntry} (h:zGt D L a):∀x∈a,MapKept.IsKey .string x.key:=by
 intro x d;obtain⟨i,k,b,_,_,c,_⟩:=h.1 x d;rw[c];exact trivial
theorem qA0 {D L i b c:Nat} {k:List UInt8} {v:yD} {g:List MapEntry} (h:zGt D L g) (q:zF4[i]? =yA k) (l:ibL[i]? =yA b) (t:L.testBit b=yI) (hv:2<=i->(zQg D)[i]? =yA v):
  Instr.findNow .string (str k) g 0=yA yB/\zGt D (L|||1<<<b) (g++[⟨str k,v,c⟩]):=by
 refine⟨?_,fun e f=> ?_,fun m b' n s o r=> ?_⟩
 .rcases MapKept.findNow_spec (d:= .string) (k:=str k) trivial g 0 (zOy h)with⟨w,_⟩|⟨j,e,_,y,z⟩
  .exact w
  .obtain⟨m,n,b',g1,g2,g3,p,_⟩:=h.1 e (qSs y);obtain rfl:=str_inj (g3.symm.trans z);obtain rfl:=key_inj g1 q;rw[g2]at l;obtain rfl:=qPv l;rw[p]at t;cases t
 .rcases qSi.1 f with f|f
  .obtain⟨m,n,b',g1,g2,g3,p,u⟩:=h.1 e f;exact⟨m,n,b',g1,g2,g3,bm p,u⟩
  .obtain rfl:=qRe.1 f;exact⟨i,k,b,q,l,rfl,bs,hv⟩
 .by_cases e:b'=b
  .subst e;obtain rfl:=qF1 s l;rw[q]at o;obtain rfl:=qPv o;exact⟨_,List.mem_append_right _ (qRe.2 rfl),rfl⟩
  .rw[bt e]at r;obtain⟨x,B,a⟩:=h.2 m b' n s o r;exact⟨x,List.mem_append_left _ B,a⟩
def Knows (D:Nat) (a:List MapEntry):Prop:=∀(i:Nat) (k:List UInt8) (v:yD),2<=i->zF4[i]? =yA k->(zQg D)[i]? =yA v->∃j,Instr.findNow .string (str k) a 0=yA (yA (j,v))
theorem zU9 {D L:Nat} {g:List MapEntry} (h:zGt D L g) (n:∀b∈ibL,L.testBit b=yH):Knows D g:=by
 intro i k v hi m hv;rcases MapKept.findNow_spec (d:= .string) (k:=str k) trivial g 0 (zOy h)with⟨_,l⟩|⟨j,e,l,p,q⟩
 .have c:i<17:=(qSj.1 m).1;have a:ibL[i]? =yA ibL[i]:=qPu c;obtain⟨x,r,f⟩:=h.2 i _ k a m (n _ (zPq a));exact absurd f (l x r)
 .obtain⟨s,t,b',g1,_,g3,_,o⟩:=h.1 e (qSs p);obtain rfl:=str_inj (g3.symm.trans q);obtain rfl:=key_inj g1 m;have:=o hi;rw[hv]at this;exact⟨0+j,by rw[l,qPv this]⟩
theorem qDs {w:yC} {M c:Nat} {a:Array MapEntry} {k:List UInt8} (v:yD) (h:w.heap[M]? =yA (.map a c)) (b:Instr.findNow .string (str k) a.toList 0=yA yB):
  ∃w',(Instr.mapUpdate zBt (.map (yA M)) (str k) v).run yK w= .ok () w'/\w'.heap[M]? =yA (.map (a.push ⟨str k,v,c⟩) (c+1))/\yM M w w':=by
 refine⟨w.putObj M (.map (a.push ⟨str k,v,c⟩) (c+1)),?_,?_,?_⟩
 .simp[Instr.mapUpdate,qTo (show prog.underlying zBt=yA (.map zAk 285)from underlying287),MapKept.run_getObj_map h,MapKept.run_checkKey underlying9 (show MapKept.IsKey .string (str k)from trivial),MapKept.run_findKey underlying9 b,MapKept.run_setObj_map _ h,Result.andThen];rfl
 .exact World.putObj_heap_same (zAd h)
 .exact(yR M w).trans ⟨rfl,rfl,rfl,by rw[putObj_size];exact qPq _,fun k d=>World.putObj_heap_other za⟩
theorem zTh (D:Nat) (p:yF) (w:yC):
  yG yK 210 #[qc (yA ⟨D,0,yB⟩),qc (yA p)] w fun e w'=>e=qx (zBy w.heap.size)/\yM w w w':=by
 have b:∀(fn:Fn) (first a:Array yD) (w:yC),(Instr.makeFunc fn first a).run yK w= .ok (.func fn first a) w:=fun _ _ _ _=>rfl;go_enter func210,ntmps210;go_wp2;go_ret;exact⟨rfl,(yR _ _).alloc (qPq _) _⟩
theorem zAb {w w':yC} {M:Nat} {o:Obj} (h:w.heap[M]? =yA o) (a:yM w w w'):w'.heap[M]? =yA o:=(a.block M (zAd h)).trans h
def MapAt (D B L:Nat) (w:yC) (s:yD):Prop:=∃M a c,s= .map (yA M)/\B<=M/\w.heap[M]? =yA (.map a c)/\zGt D L a.toList
theorem MapAt.other {D B L j:Nat} {w:yC} {s:yD} (h:MapAt D B L w s) (g:j∉ibL):MapAt D B (L|||1<<<j) w s:=by
 obtain⟨M,a,c,b,d,e,f⟩:=h;exact⟨M,a,c,b,d,e,zU8 f g⟩
theorem MapAt.keep {D B L:Nat} {w w':yC} {s:yD} (h:MapAt D B L w s) (g:yM w w w'):MapAt D B L w' s:=by
 obtain⟨M,a,c,b,d,e,f⟩:=h;exact⟨M,a,c,b,d,zAb e g,f⟩
structure IW (D B:Nat) (w0:yC) (L:Nat) (w:yC) (s2 s3 s8 s9 s14 s15 s61:yD):Prop where
 mp:L.testBit 0=yH->MapAt D B L w s3
 i5:L.testBit 5=yH->∃b,s8=zBy b
 i6:L.testBit 6=yH->∃b,s9=row [104] (zBy b) yI
 i12:L.testBit 12=yH->∃b,s14=zBy b
 i13:L.testBit 13=yH->∃b,s15=row [104] (zBy b) yI
 i75:L.testBit 75=yH->s61=s3
 i76:L.testBit 76=yH->s2=s3
 bl:yM B w0 w
 le:B<=w0.heap.size
 pre:∀k,L0.testBit k=yH->L.testBit k=yH
 cl:∀b∈ibL++[75,76],L.testBit b=yH->L.testBit 0=yH
def IV (D B:Nat) (w0:yC) (L:Nat) (a:Act) (w:yC):Prop:=∃s2 s3 e f b c d,a=FR D s2 s3 e f b c d/\IW D B w0 L w s2 s3 e f b c d
section
variable {D B:Nat} {w0 w w':yC} {L:Nat} {s2 s3 s8 s9 s14 s15 s61:yD}
theorem zF9 {i:Nat} (h:∀b∈ibL++[75,76],L.testBit b=yH->L.testBit 0=yH) (a:L.testBit 0=yH\/i∉ibL++[75,76]):∀b∈ibL++[75,76],(L|||1<<<i).testBit b=yH->(L|||1<<<i).testBit 0=yH:=by
 intro b d c;rcases a with a|a
 .exact bm a
 .rw[bt (show b≠i from fun e=>a (e▸d))]at c;exact bm (h b d c)
theorem st0 (h:IW D B w0 L w s2 s3 s8 s9 s14 s15 s61) (f:L.testBit 0=yI):IW D B w0 (L|||1<<<0) (w.alloc (.map #[] 0)) s2 (.map (yA w.heap.size)) s8 s9 s14 s15 s61:=by
 have no:∀b∈ibL++[75,76],L.testBit b=yI:=fun b d=>by
  cases e:L.testBit b with
  |false=>rfl
  |true=>have:=h.cl b d e;rw[f]at this;cases this
 have i:∀b∈ibL++[75,76],b≠0:=qW
 have a:=qP2 h.le h.bl.size;refine⟨fun _=>⟨w.heap.size,#[],0,rfl,a,zAh w _,zX0 (fun b d=> ?_)⟩,fun c=>h.i5 (by rwa[bt qW]at c),fun c=>h.i6 (by rwa[bt qW]at c),fun c=>h.i12 (by rwa[bt qW]at c),fun c=>h.i13 (by rwa[bt qW]at c),fun c=> ?_,fun c=> ?_,h.bl.trans ((yR _ _).alloc a _),h.le,fun k g=>bm (h.pre k g),fun b d j=>bs⟩
 .rw[bt (i b (List.mem_append_left _ d))];exact no b (List.mem_append_left _ d)
 .rw[bt qW,no 75 qW]at c;cases c
 .rw[bt qW,no 76 qW]at c;cases c
theorem st5 (h:IW D B w0 L w s2 s3 s8 s9 s14 s15 s61) (x:Nat) (b:yM w w w'):IW D B w0 (L|||1<<<5) w' s2 s3 (zBy x) s9 s14 s15 s61:=
 ⟨fun a=>((h.mp (by rwa[bt qW]at a)).other qW).keep b,fun _=>⟨x,rfl⟩,fun a=>h.i6 (by rwa[bt qW]at a),fun a=>h.i12 (by rwa[bt qW]at a),fun a=>h.i13 (by rwa[bt qW]at a),fun a=>h.i75 (by rwa[bt qW]at a),fun a=>h.i76 (by rwa[bt qW]at a),h.bl.trans (b.mono (qP2 h.le h.bl.size)),h.le,fun k c=>bm (h.pre k c),zF9 h.cl (qy qW)⟩
theorem qHw (h:IW D B w0 L w s2 s3 s8 s9 s14 s15 s61) (x:Nat) (b:yM w w w'):IW D B w0 (L|||1<<<12) w' s2 s3 s8 s9 (zBy x) s15 s61:=
 ⟨fun a=>((h.mp (by rwa[bt qW]at a)).other qW).keep b,fun a=>h.i5 (by rwa[bt qW]at a),fun a=>h.i6 (by rwa[bt qW]at a),fun _=>⟨x,rfl⟩,fun a=>h.i13 (by rwa[bt qW]at a),fun a=>h.i75 (by rwa[bt qW]at a),fun a=>h.i76 (by rwa[bt qW]at a),h.bl.trans (b.mono (qP2 h.le h.bl.size)),h.le,fun k c=>bm (h.pre k c),zF9 h.cl (qy qW)⟩
theorem st6 (h:IW D B w0 L w s2 s3 s8 s9 s14 s15 s61) (x:Nat):IW D B w0 (L|||1<<<6) w s2 s3 s8 (row [104] (zBy x) yI) s14 s15 s61:=
 ⟨fun a=>((h.mp (by rwa[bt qW]at a)).other qW),fun a=>h.i5 (by rwa[bt qW]at a),fun _=>⟨x,rfl⟩,fun a=>h.i12 (by rwa[bt qW]at a),fun a=>h.i13 (by rwa[bt qW]at a),fun a=>h.i75 (by rwa[bt qW]at a),fun a=>h.i76 (by rwa[bt qW]at a),h.bl,h.le,fun k b=>bm (h.pre k b),zF9 h.cl (qy qW)⟩
theorem qHv (h:IW D B w0 L w s2 s3 s8 s9 s14 s15 s61) (x:Nat):IW D B w0 (L|||1<<<13) w s2 s3 s8 s9 s14 (row [104] (zBy x) yI) s61:=
 ⟨fun a=>((h.mp (by rwa[bt qW]at a)).other qW),fun a=>h.i5 (by rwa[bt qW]at a),fun a=>h.i6 (by rwa[bt qW]at a),fun a=>h.i12 (by rwa[bt qW]at a),fun _=>⟨x,rfl⟩,fun a=>h.i75 (by rwa[bt qW]at a),fun a=>h.i76 (by rwa[bt qW]at a),h.bl,h.le,fun k b=>bm (h.pre k b),zF9 h.cl (qy qW)⟩
theorem qHu (h:IW D B w0 L w s2 s3 s8 s9 s14 s15 s61) (b:L.testBit 0=yH):IW D B w0 (L|||1<<<75) w s2 s3 s8 s9 s14 s15 s3:=
 ⟨fun a=>(h.mp b).other qW,fun a=>h.i5 (by rwa[bt qW]at a),fun a=>h.i6 (by rwa[bt qW]at a),fun a=>h.i12 (by rwa[bt qW]at a),fun a=>h.i13 (by rwa[bt qW]at a),fun _=>rfl,fun a=>h.i76 (by rwa[bt qW]at a),h.bl,h.le,fun k c=>bm (h.pre k c),zF9 h.cl (qz b)⟩
theorem qHt (h:IW D B w0 L w s2 s3 s8 s9 s14 s15 s61) (b:L.testBit 0=yH) (e:s61=s3):IW D B w0 (L|||1<<<76) w s61 s3 s8 s9 s14 s15 s61:=
 ⟨fun a=>(h.mp b).other qW,fun a=>h.i5 (by rwa[bt qW]at a),fun a=>h.i6 (by rwa[bt qW]at a),fun a=>h.i12 (by rwa[bt qW]at a),fun a=>h.i13 (by rwa[bt qW]at a),fun a=>h.i75 (by rwa[bt qW]at a),fun _=>e,h.bl,h.le,fun k c=>bm (h.pre k c),zF9 h.cl (qz b)⟩
theorem stI {i b:Nat} {k:List UInt8} {v:yD} (h:IW D B w0 L w s2 s3 s8 s9 s14 s15 s61) (n:L.testBit 0=yH) (m:zF4[i]? =yA k) (p:ibL[i]? =yA b) (s:L.testBit b=yI) (hv:2<=i->(zQg D)[i]? =yA v):
  ∃w',(Instr.mapUpdate zBt s3 (str k) v).run yK w= .ok () w'/\IW D B w0 (L|||1<<<b) w' s2 s3 s8 s9 s14 s15 s61:=by
 obtain⟨M,H,c,rfl,o,q,r⟩:=h.mp n;obtain⟨t,u⟩:=qA0 (c:=c) r m p s hv;obtain⟨w',z,y,a⟩:=qDs v q t;have g:=zPq p;have ne:∀x∈ibL,x≠5/\x≠6/\x≠12/\x≠13/\x≠75/\x≠76:=qW
 obtain⟨F,G,e,f,d,j⟩:=ne b g;exact⟨w',z,fun _=>⟨M,_,_,rfl,o,y,by rw[Array.toList_push];exact u⟩,fun l=>h.i5 (by rwa[bt F.symm]at l),fun l=>h.i6 (by rwa[bt G.symm]at l),fun l=>h.i12 (by rwa[bt e.symm]at l),fun l=>h.i13 (by rwa[bt f.symm]at l),fun l=>h.i75 (by rwa[bt d.symm]at l),fun l=>h.i76 (by rwa[bt j.symm]at l),h.bl.trans (a.mono o),h.le,fun k m=>bm (h.pre k m),zF9 h.cl (qz n)⟩
end
theorem qAn (D:Nat) (w:yC):IW D w.heap.size w L0 w.drew (.map yB) yN yN yN yN yN yN:=by
 have no:∀b∈zL7,L0.testBit b=yI:=qW
 have g:∀b∈zL7,L0.testBit b=yH->False:=fun b a h=>by rw[no b a]at h;cases h
 exact⟨fun h=>(g 0 qW h).elim,fun h=>(g 5 qW h).elim,fun h=>(g 6 qW h).elim,fun h=>(g 12 qW h).elim,fun h=>(g 13 qW h).elim,fun h=>(g 75 qW h).elim,fun h=>(g 76 qW h).elim,(yR _ _).drew,qPq _,fun k c=>c,fun b a h=>(g b ((by decide:∀b∈ibL++[75,76],b∈zL7) b a) h).elim⟩
theorem qFu {D B:Nat} {w0 w:yC} {L:Nat} {s2 s3 o p e f g:yD} (h:IW D B w0 L w s2 s3 o p e f g) (d:∀i,i<77->L.testBit i=yH):∃M a c,s2= .map (yA M)/\B<=M/\w.heap[M]? =yA (.map a c)/\Knows D a.toList/\yM B w0 w:=by
 obtain⟨M,a,c,j,k,l,m⟩:=h.mp (d 0 qW);exact⟨M,a,c,(h.i76 (d 76 qW)).trans j,k,l,zU9 m (fun b n=>d b ((by decide:∀b∈ibL,b<77) b n)),h.bl⟩
end Sh
namespace Sh
open Zr
theorem zQa (D:Nat) (w:yC):
  yG yK 171 #[qc (yA ⟨D,0,yB⟩)] w fun e w'=>∃M u c,e=qx (.map (yA M))/\w.heap.size<=M/\w'.heap[M]? =yA (.map u c)/\Knows D u.toList/\yM w w w':=by
 go_enter func171,ntmps171
 try go_wp2_with fail
 refine zS [] (fun _=>True) MS 77<|zu 1 4 (zP D 0)<|zu 2 5 (zP D 0)<|zu 3 6 (zP D 0)<|zu 4 7 (zP D 0)<|zu 8 10 (zP D 0)<|zu 9 11 (zP D 0)<|zu 10 12 (zP D 0)<|zu 11 13 (zP D 1)<|zu 15 16 (zP D 0)<|zu 16 17 (met 211 D)<|zu 17 18 (row [110,104] (met 211 D) yI)<|zu 19 19 (zP D 0)<|zu 20 20 (met 212 D)<|zu 21 21 (row [110,104] (met 212 D) yI)<|zu 23 22 (zP D 0)<|zu 24 23 (met 213 D)<|zu 25 24 (row [110] (met 213 D) yI)<|zu 27 25 (zP D 0)<|zu 28 26 (met 214 D)<|zu 29 27 (row [110] (met 214 D) yI)<|zu 31 28 (zP D 0)<|zu 32 29 (met 215 D)<|zu 33 30 (row [] (met 215 D) yI)<|zu 35 31 (zP D 0)<|zu 36 32 (met 216 D)<|zu 37 33 (row [] (met 216 D) yI)<|zu 39 34 (zP D 0)<|zu 40 35 (met 217 D)<|zu 41 36 (row [] (met 217 D) yI)<|zu 43 37 (zP D 0)<|zu 44 38 (met 218 D)<|zu 45 39 (row [] (met 218 D) yI)<|zu 47 40 (zP D 0)<|zu 48 41 (met 219 D)<|zu 49 42 (row [110,110] (met 219 D) yI)<|zu 51 43 (zP D 0)<|zu 52 44 (met 220 D)<|zu 53 45 (row [110,110] (met 220 D) yI)<|zu 55 46 (zP D 0)<|zu 56 47 (met 221 D)<|zu 57 48 (row [110,110,110] (met 221 D) yH)<|zu 59 49 (zP D 0)<|zu 60 50 (met 222 D)<|zu 61 51 (row [110,110,110] (met 222 D) yH)<|zu 63 52 (zP D 0)<|zu 64 53 (met 223 D)<|zu 65 54 (row [110] (met 223 D) yH)<|zu 67 55 (zP D 0)<|zu 68 56 (met 224 D)<|zu 69 57 (row [] (met 224 D) yH)<|zu 71 58 (zP D 0)<|zu 72 59 (met 225 D)<|zu 73 60 (row [] (met 225 D) yH)<| ?_
 refine Kit.At_.cast (a':=FR D (.map yB) yN yN yN yN yN yN) ?_ zf;refine Kit.qAo (IV D w.heap.size w) zf ?_ ?_ 24 L0 _ _ ⟨_,_,_,_,_,_,_,rfl,qAn D w⟩ zf
 .intro L a s i m y j r l;obtain⟨s2,s3,p,q,n,o,k,rfl,h⟩:=y;have hi:i<77:=(qSj.1 j).1;have b:L0.testBit i=yI:=by
   cases e:L0.testBit i with
   |false=>rfl
   |true=>rw[h.pre i e]at r;cases r
  have f:=rest_of i hi b;clear hi b;simp only[zL7,qP6,qT9,or_false]at f;rcases f with rfl|rfl|rfl|rfl|rfl|rfl|rfl|rfl|rfl|rfl|rfl|rfl|rfl|rfl|rfl|rfl|rfl|rfl|rfl|rfl|rfl|rfl|rfl|rfl
  .obtain rfl:(0:Nat)=m:=qPv j;refine⟨_,rfl,zf,zA9 (w':=s.alloc (.map #[] 0)) (.map (yA s.heap.size)) zf ⟨qy (qy trivial),s2,.map (yA s.heap.size),p,q,n,o,k,zf,st0 h r⟩⟩
  .obtain rfl:(18:Nat)=m:=qPv j;refine⟨_,rfl,zf,zHy 210 #[qc (yA ⟨D,0,yB⟩),qc (yA ⟨D,0,yB⟩)] zf (zTh D ⟨D,0,yB⟩ s) (fun e w2 t=>⟨zBy s.heap.size,t.1,qy (qy trivial),s2,s3,zBy s.heap.size,q,n,o,k,zf,st5 h _ t.2⟩)⟩
  .obtain rfl:(32:Nat)=m:=qPv j;obtain⟨x,rfl⟩:=h.i5 (l 5 zf);refine⟨_,rfl,zf,zA9 (row [104] (zBy x) yI) zf ⟨qy (qy trivial),s2,s3,zBy x,row [104] (zBy x) yI,n,o,k,zf,st6 h x⟩⟩
  .obtain rfl:(65:Nat)=m:=qPv j;obtain⟨x,rfl⟩:=h.i6 (l 6 zf);obtain⟨w2,f,g⟩:=stI (i:=0) (v:=row [104] (zBy x) yI) h (l 0 zf) rfl rfl r (fun t=>absurd t qW);refine⟨_,rfl,zf,zBd (.tmp 3) (.const (str [97,114,99,104,105,118,101])) (.tmp 9) zBt rfl zf zf zf f ⟨qy (qy trivial),s2,s3,p,row [104] (zBy x) yI,n,o,k,zf,g⟩⟩
  .obtain rfl:(2336:Nat)=m:=qPv j;refine⟨_,rfl,zf,zHy 210 #[qc (yA ⟨D,0,yB⟩),qc (yA ⟨D,1,yB⟩)] zf (zTh D ⟨D,1,yB⟩ s) (fun e w2 t=>⟨zBy s.heap.size,t.1,qy (qy trivial),s2,s3,p,q,zBy s.heap.size,o,k,zf,qHw h _ t.2⟩)⟩
  .obtain rfl:(4096:Nat)=m:=qPv j;obtain⟨x,rfl⟩:=h.i12 (l 12 zf);refine⟨_,rfl,zf,zA9 (row [104] (zBy x) yI) zf ⟨qy (qy trivial),s2,s3,p,q,zBy x,row [104] (zBy x) yI,k,zf,qHv h x⟩⟩
  .obtain rfl:(8193:Nat)=m:=qPv j;obtain⟨x,rfl⟩:=h.i13 (l 13 zf);obtain⟨w2,f,g⟩:=stI (i:=1) (v:=row [104] (zBy x) yI) h (l 0 zf) rfl rfl r (fun t=>absurd t qW);refine⟨_,rfl,zf,zBd (.tmp 3) (.const (str [115,105,100,101,99,97,114])) (.tmp 15) zBt rfl zf zf zf f ⟨qy (qy trivial),s2,s3,p,q,n,row [104] (zBy x) yI,k,zf,g⟩⟩
  .obtain rfl:(131073:Nat)=m:=qPv j;obtain⟨w2,f,g⟩:=stI (i:=2) (v:=row [110,104] (met 211 D) yI) h (l 0 zf) rfl rfl r (fun _=>rfl);refine⟨_,rfl,zf,zBd (.tmp 3) (.const (str [112,97,99,107])) (.tmp 18) zBt rfl zf zf zf f ⟨qy (qy trivial),s2,s3,p,q,n,o,k,zf,g⟩⟩
  .obtain rfl:(2097153:Nat)=m:=qPv j;obtain⟨w2,f,g⟩:=stI (i:=3) (v:=row [110,104] (met 212 D) yI) h (l 0 zf) rfl rfl r (fun _=>rfl);refine⟨_,rfl,zf,zBd (.tmp 3) (.const (str [109,111,114,101])) (.tmp 21) zBt rfl zf zf zf f ⟨qy (qy trivial),s2,s3,p,q,n,o,k,zf,g⟩⟩
  .obtain rfl:(33554433:Nat)=m:=qPv j;obtain⟨w2,f,g⟩:=stI (i:=4) (v:=row [110] (met 213 D) yI) h (l 0 zf) rfl rfl r (fun _=>rfl);refine⟨_,rfl,zf,zBd (.tmp 3) (.const (str [116,117,114,110])) (.tmp 24) zBt rfl zf zf zf f ⟨qy (qy trivial),s2,s3,p,q,n,o,k,zf,g⟩⟩
  .obtain rfl:(536870913:Nat)=m:=qPv j;obtain⟨w2,f,g⟩:=stI (i:=5) (v:=row [110] (met 214 D) yI) h (l 0 zf) rfl rfl r (fun _=>rfl);refine⟨_,rfl,zf,zBd (.tmp 3) (.const (str [99,117,116])) (.tmp 27) zBt rfl zf zf zf f ⟨qy (qy trivial),s2,s3,p,q,n,o,k,zf,g⟩⟩
  .obtain rfl:(8589934593:Nat)=m:=qPv j;obtain⟨w2,f,g⟩:=stI (i:=6) (v:=row [] (met 215 D) yI) h (l 0 zf) rfl rfl r (fun _=>rfl);refine⟨_,rfl,zf,zBd (.tmp 3) (.const (str [98,121,116,101,115])) (.tmp 30) zBt rfl zf zf zf f ⟨qy (qy trivial),s2,s3,p,q,n,o,k,zf,g⟩⟩
  .obtain rfl:(137438953473:Nat)=m:=qPv j;obtain⟨w2,f,g⟩:=stI (i:=7) (v:=row [] (met 216 D) yI) h (l 0 zf) rfl rfl r (fun _=>rfl);refine⟨_,rfl,zf,zBd (.tmp 3) (.const (str [115,97,121])) (.tmp 33) zBt rfl zf zf zf f ⟨qy (qy trivial),s2,s3,p,q,n,o,k,zf,g⟩⟩
  .obtain rfl:(2199023255553:Nat)=m:=qPv j;obtain⟨w2,f,g⟩:=stI (i:=8) (v:=row [] (met 217 D) yI) h (l 0 zf) rfl rfl r (fun _=>rfl);refine⟨_,rfl,zf,zBd (.tmp 3) (.const (str [105,110,100,101,120])) (.tmp 36) zBt rfl zf zf zf f ⟨qy (qy trivial),s2,s3,p,q,n,o,k,zf,g⟩⟩
  .obtain rfl:(35184372088833:Nat)=m:=qPv j;obtain⟨w2,f,g⟩:=stI (i:=9) (v:=row [] (met 218 D) yI) h (l 0 zf) rfl rfl r (fun _=>rfl);refine⟨_,rfl,zf,zBd (.tmp 3) (.const (str [115,97,118,101])) (.tmp 39) zBt rfl zf zf zf f ⟨qy (qy trivial),s2,s3,p,q,n,o,k,zf,g⟩⟩
  .obtain rfl:(562949953421313:Nat)=m:=qPv j;obtain⟨w2,f,g⟩:=stI (i:=10) (v:=row [110,110] (met 219 D) yI) h (l 0 zf) rfl rfl r (fun _=>rfl);refine⟨_,rfl,zf,zBd (.tmp 3) (.const (str [111,112,101,110])) (.tmp 42) zBt rfl zf zf zf f ⟨qy (qy trivial),s2,s3,p,q,n,o,k,zf,g⟩⟩
  .obtain rfl:(9007199254740993:Nat)=m:=qPv j;obtain⟨w2,f,g⟩:=stI (i:=11) (v:=row [110,110] (met 220 D) yI) h (l 0 zf) rfl rfl r (fun _=>rfl);refine⟨_,rfl,zf,zBd (.tmp 3) (.const (str [111,112,101,110,98,121])) (.tmp 45) zBt rfl zf zf zf f ⟨qy (qy trivial),s2,s3,p,q,n,o,k,zf,g⟩⟩
  .obtain rfl:(144115188075855873:Nat)=m:=qPv j;obtain⟨w2,f,g⟩:=stI (i:=12) (v:=row [110,110,110] (met 221 D) yH) h (l 0 zf) rfl rfl r (fun _=>rfl);refine⟨_,rfl,zf,zBd (.tmp 3) (.const (str [114,101,97,100])) (.tmp 48) zBt rfl zf zf zf f ⟨qy (qy trivial),s2,s3,p,q,n,o,k,zf,g⟩⟩
  .obtain rfl:(2305843009213693953:Nat)=m:=qPv j;obtain⟨w2,f,g⟩:=stI (i:=13) (v:=row [110,110,110] (met 222 D) yH) h (l 0 zf) rfl rfl r (fun _=>rfl);refine⟨_,rfl,zf,zBd (.tmp 3) (.const (str [97,115,107])) (.tmp 51) zBt rfl zf zf zf f ⟨qy (qy trivial),s2,s3,p,q,n,o,k,zf,g⟩⟩
  .obtain rfl:(36893488147419103233:Nat)=m:=qPv j;obtain⟨w2,f,g⟩:=stI (i:=14) (v:=row [110] (met 223 D) yH) h (l 0 zf) rfl rfl r (fun _=>rfl);refine⟨_,rfl,zf,zBd (.tmp 3) (.const (str [115,116,101,112])) (.tmp 54) zBt rfl zf zf zf f ⟨qy (qy trivial),s2,s3,p,q,n,o,k,zf,g⟩⟩
  .obtain rfl:(590295810358705651713:Nat)=m:=qPv j;obtain⟨w2,f,g⟩:=stI (i:=15) (v:=row [] (met 224 D) yH) h (l 0 zf) rfl rfl r (fun _=>rfl);refine⟨_,rfl,zf,zBd (.tmp 3) (.const (str [115,104,101,108,102])) (.tmp 57) zBt rfl zf zf zf f ⟨qy (qy trivial),s2,s3,p,q,n,o,k,zf,g⟩⟩
  .obtain rfl:(9444732965739290427393:Nat)=m:=qPv j;obtain⟨w2,f,g⟩:=stI (i:=16) (v:=row [] (met 225 D) yH) h (l 0 zf) rfl rfl r (fun _=>rfl);refine⟨_,rfl,zf,zBd (.tmp 3) (.const (str [114,101,97,100,101,114,115])) (.tmp 60) zBt rfl zf zf zf f ⟨qy (qy trivial),s2,s3,p,q,n,o,k,zf,g⟩⟩
  .obtain rfl:(37778931862957161709567:Nat)=m:=qPv j;refine⟨_,rfl,zf,zA9 s3 zf ⟨qy (qy trivial),s2,s3,p,q,n,o,s3,zf,qHu h (l 0 zf)⟩⟩
  .obtain rfl:(75557863725914323419135:Nat)=m:=qPv j;refine⟨_,rfl,zf,zA9 k zf ⟨qy (qy trivial),k,s3,p,q,n,o,k,zf,qHt h (l 0 zf) (h.i75 (l 75 zf))⟩⟩
 .intro L a s y z;obtain⟨s2,s3,p,q,n,o,k,rfl,h⟩:=y;obtain⟨M,u,c,rfl,B,j,F,d⟩:=qFu h (fun i hi=>z i hi);clear h z;simp only[FR];go_wp2;go_ret;exact⟨M,u,c,rfl,B,j,F,d⟩
end Sh
namespace Sh
open Sm
abbrev tSp:ByteArray:=⟨#[32]⟩
abbrev tNl:ByteArray:=⟨#[10]⟩
abbrev zIn:ByteArray:=⟨#[112,97,99,107]⟩
abbrev zKz:ByteArray:=⟨#[49]⟩
abbrev zDz:ByteArray:=⟨#[112,97,99,107,32,49,32,54,49,54,50]⟩
abbrev zE1:ByteArray:=⟨#[112,97,99,107,32,49,32,54,49,54,50,10]⟩
abbrev zE0:ByteArray:=⟨#[115,97,121,10]⟩
abbrev zPl:ByteArray:=⟨#[112,97,99,107,32,49,32,54,49,54,50,10,115,97,121,10]⟩
def HM (w:yC):Prop:=∃m,w.cell? ⟨0,0,yB⟩=yA (qX qm m)
theorem zUn (w:yC) (a:HM w):yG yK 170 #[qY zDz,qY tSp] w fun e w'=>e=qx (qZ (yA ⟨w,0,yB⟩) 3 3)/\w'=w.alloc (qp #[qY zIn,qY zKz,qY zBn] zAk):=by
 obtain⟨m,a⟩:=a;have h:=strings_Split zDz tSp m w qW a qW;rw[show Lib.countB zDz tSp=2 from qW,show Lib.splitB tSp 0 2 zDz=[zIn,zKz,zBn]from qW]at h;exact h
theorem zWs (w:yC) (a:HM w):yG yK 170 #[qY zA5,qY tSp] w fun e w'=>e=qx (qZ (yA ⟨w,0,yB⟩) 1 1)/\w'=w.alloc (qp #[qY zA5] zAk):=by
 obtain⟨m,a⟩:=a;have h:=strings_Split zA5 tSp m w qW a qW;rw[show Lib.countB zA5 tSp=0 from qW,show Lib.splitB tSp 0 0 zA5=[zA5]from qW]at h;exact h
theorem zVv (w:yC) (a:HM w):yG yK 120 #[qY zPl,qY tNl] w fun e w'=>e=qx (qZ (yA ⟨w,0,yB⟩) 3 3)/\w'=w.alloc (qp #[qY zE1,qY zE0,qY ⟨#[]⟩] zAk):=by
 obtain⟨m,a⟩:=a;have h:=strings_genSplit zPl tNl 1 (-1) 3 m w qW a qW qW qW qW qW;rw[show((1:Nat):Int)=1 from rfl,show Lib.splitB tNl 1 (3-1) zPl=[zE1,zE0,⟨#[]⟩]from qW]at h;have H:=zH h;go_enter func120,ntmps120;go_wp2_with fail;(with_reducible refine H.out.mono ?_);rintro e b ⟨rfl,rfl⟩;go_wp2;go_ret;exact⟨rfl,rfl⟩
theorem zWc (w:yC):yG yK 122 #[qY zE1,qY tNl] w fun e w'=>e=qx (qY zDz)/\w'=w:=by
 have h:=strings_TrimSuffix zE1 tNl w qW;rw[show(⟨(Lib.trimSuffix zE1.data.toList tNl.data.toList).toArray⟩:ByteArray)=zDz from qW]at h;exact h
theorem zY6 (w:yC):yG yK 122 #[qY zE0,qY tNl] w fun e w'=>e=qx (qY zA5)/\w'=w:=by
 have h:=strings_TrimSuffix zE0 tNl w qW;rw[show(⟨(Lib.trimSuffix zE0.data.toList tNl.data.toList).toArray⟩:ByteArray)=zA5 from qW]at h;exact h
end Sh
namespace Sh
open Zr Front Wg Ch Sq Tn Sm
theorem zQ1 {P:Program} {o:Oper} {a:Act} {w w':yC} {K:Act->yC->Prop} {Q:Exit->Act->yC->Prop} (hv:(execOp a.eval o).run P w= .ok .skip w') (h:K (a.put o.dst yN) w'):Oper.wp P o a w K Q:=by
 unfold Oper.wp;rw[hv];exact h
abbrev zEe:yE:=285
theorem zQ5 {w:yC} {M c D i:Nat} {a:Array MapEntry} {k:List UInt8} {v:yD} (h:w.heap[M]? =yA (.map a c)) (f:Knows D a.toList) (hi:2<=i) (b:zF4[i]? =yA k) (d:(zQg D)[i]? =yA v):
  (Instr.lookup zBt (.map (yA M)) (str k) yH).run yK w= .ok (qg #[v,qh yH]) w:=by
 obtain⟨j,e⟩:=f i k v hi b d;simp[Instr.lookup,qTo (show prog.underlying zBt=yA (.map zAk zEe)from underlying287),MapKept.run_getObj_map h,MapKept.run_checkKey underlying9 (show MapKept.IsKey .string (str k)from trivial),MapKept.run_findKey underlying9 e,Result.andThen]
theorem look_eq {P:Program} {w w':yC} {ρ:Operand->yD} {o:Oper} {t:yE} {x y:Operand} {a c v:yD} {b:Bool} (d:o.op= .lookup t x y b) (f:ρ x=a) (g:ρ y=c) (e:(Instr.lookup t a c b).run P w= .ok v w'):(execOp ρ o).run P w= .ok (.value v) w':=by
 unfold execOp;simp[d,f,g,e,Result.andThen]
theorem zWq {w:yC} {B:Nat} {u v x u' v' x':yD} (h:w.heap[B]? =yA (qp #[u,v,x] zEe)) (f:∀z∈[u',v',x'],z.oneCell'=yH):
  ∃w',(storeVar zEe ⟨B,0,yB⟩ (.agg #[u',v',x'])).run yK w= .ok () w'/\w'.heap[B]? =yA (qp #[u',v',x'] zEe)/\(∀D,D<=B->yM D w w'):=by
 obtain⟨c0,c1,c2,c,d,e⟩:=zBi h;have a:=qSl (P:=yK) w B 0 zEe #[u',v',x'] (fun j g=>by
  have i:j<3:=g;obtain rfl|rfl|rfl:j=0\/j=1\/j=2:=za
  .exact⟨by rw[show 0+0=0 from rfl,c0];rfl,c⟩
  .exact⟨by rw[show 0+1=1 from rfl,c1];rfl,d⟩
  .exact⟨by rw[show 0+2=2 from rfl,c2];rfl,e⟩) zf (by simpa using f)
 refine⟨_,a,?_,?_⟩
 .exact zA3 2 _ (zA3 1 _ (zA3 0 _ h))
 .exact fun D b=>(((yR _ w).setCell (p:=⟨B,0,yB⟩) b _).setCell (p:=⟨B,1,yB⟩) b _).setCell (p:=⟨B,2,yB⟩) b _
def MsD:List Nat:=[0,1,0,4,8,18,32,64,64,0,767,2047]
def LD:Nat:=13
def zL8:List Nat:=[1,4,5,6,7,8,9,10,11]
theorem zQj:∀i,i<12->LD.testBit i=yI->i∈zL8:=qW
structure IR (D B:Nat) (k form:List UInt8) (fn:yD) (on:Bool) (w1:yC) (L:Nat) (w:yC) (s21 s24 s25 s19 s26 s27 s6 s7:yD):Prop where
 i1:L.testBit 1=yH->L.testBit 5=yI->∃M es c,s21= .map (yA M)/\B<=M/\w.heap[M]? =yA (.map es c)/\Knows D es.toList
 i4:L.testBit 4=yH->s24=str k
 i5:L.testBit 5=yH->s25=qg #[row form fn on,qh yH]
 i6:L.testBit 6=yH->s19=qg #[row form fn on,qh yH]
 i7:L.testBit 7=yH->s26=row form fn on
 i8:L.testBit 8=yH->s27=qh yH
 i11:L.testBit 11=yH->s7=qh yH
 i9:L.testBit 9=yH->∃A,s6=qc (yA ⟨A,0,yB⟩)/\B<=A/\(L.testBit 10=yI->w.heap[A]? =yA (qp #[qY ⟨#[]⟩,qj,qh yI] zEe))/\(L.testBit 10=yH->w.heap[A]? =yA (qp #[str form,fn,qh on] zEe))
 bl:yM B w1 w
 le:B<=w1.heap.size
 pre:∀k,LD.testBit k=yH->L.testBit k=yH
 cl:L.testBit 10=yH->L.testBit 9=yH
section
variable {D B:Nat} {k form:List UInt8} {fn:yD} {on:Bool} {w1 w w':yC} {L:Nat} {s21 s24 s25 s19 s26 s27 s6 s7:yD}
theorem ir4 (h:IR D B k form fn on w1 L w s21 s24 s25 s19 s26 s27 s6 s7):IR D B k form fn on w1 (L|||1<<<4) w s21 (str k) s25 s19 s26 s27 s6 s7:=
 ⟨fun d e=>h.i1 (by rwa[bt qW]at d) (by rwa[bt qW]at e),fun _=>rfl,fun a=>h.i5 (by rwa[bt qW]at a),fun a=>h.i6 (by rwa[bt qW]at a),fun a=>h.i7 (by rwa[bt qW]at a),fun a=>h.i8 (by rwa[bt qW]at a),fun a=>h.i11 (by rwa[bt qW]at a),fun f=>(h.i9 (by rwa[bt qW]at f)).imp fun A b=>⟨b.1,b.2.1,fun c=>b.2.2.1 (by rwa[bt qW]at c),fun c=>b.2.2.2 (by rwa[bt qW]at c)⟩,h.bl,h.le,fun k g=>bm (h.pre k g),fun a=>bm (h.cl (by rwa[bt qW]at a))⟩
theorem ir5 (h:IR D B k form fn on w1 L w s21 s24 s25 s19 s26 s27 s6 s7):IR D B k form fn on w1 (L|||1<<<5) w s21 s24 (qg #[row form fn on,qh yH]) s19 s26 s27 s6 s7:=
 ⟨fun _ d=>(by rw[bs]at d;cases d),fun a=>h.i4 (by rwa[bt qW]at a),fun _=>rfl,fun a=>h.i6 (by rwa[bt qW]at a),fun a=>h.i7 (by rwa[bt qW]at a),fun a=>h.i8 (by rwa[bt qW]at a),fun a=>h.i11 (by rwa[bt qW]at a),fun e=>(h.i9 (by rwa[bt qW]at e)).imp fun A b=>⟨b.1,b.2.1,fun c=>b.2.2.1 (by rwa[bt qW]at c),fun c=>b.2.2.2 (by rwa[bt qW]at c)⟩,h.bl,h.le,fun k f=>bm (h.pre k f),fun a=>bm (h.cl (by rwa[bt qW]at a))⟩
theorem ir6 (h:IR D B k form fn on w1 L w s21 s24 s25 s19 s26 s27 s6 s7):IR D B k form fn on w1 (L|||1<<<6) w s21 s24 s25 (qg #[row form fn on,qh yH]) s26 s27 s6 s7:=
 ⟨fun d e=>h.i1 (by rwa[bt qW]at d) (by rwa[bt qW]at e),fun a=>h.i4 (by rwa[bt qW]at a),fun a=>h.i5 (by rwa[bt qW]at a),fun _=>rfl,fun a=>h.i7 (by rwa[bt qW]at a),fun a=>h.i8 (by rwa[bt qW]at a),fun a=>h.i11 (by rwa[bt qW]at a),fun f=>(h.i9 (by rwa[bt qW]at f)).imp fun A b=>⟨b.1,b.2.1,fun c=>b.2.2.1 (by rwa[bt qW]at c),fun c=>b.2.2.2 (by rwa[bt qW]at c)⟩,h.bl,h.le,fun k g=>bm (h.pre k g),fun a=>bm (h.cl (by rwa[bt qW]at a))⟩
theorem ir7 (h:IR D B k form fn on w1 L w s21 s24 s25 s19 s26 s27 s6 s7):IR D B k form fn on w1 (L|||1<<<7) w s21 s24 s25 s19 (row form fn on) s27 s6 s7:=
 ⟨fun d e=>h.i1 (by rwa[bt qW]at d) (by rwa[bt qW]at e),fun a=>h.i4 (by rwa[bt qW]at a),fun a=>h.i5 (by rwa[bt qW]at a),fun a=>h.i6 (by rwa[bt qW]at a),fun _=>rfl,fun a=>h.i8 (by rwa[bt qW]at a),fun a=>h.i11 (by rwa[bt qW]at a),fun f=>(h.i9 (by rwa[bt qW]at f)).imp fun A b=>⟨b.1,b.2.1,fun c=>b.2.2.1 (by rwa[bt qW]at c),fun c=>b.2.2.2 (by rwa[bt qW]at c)⟩,h.bl,h.le,fun k g=>bm (h.pre k g),fun a=>bm (h.cl (by rwa[bt qW]at a))⟩
theorem ir8 (h:IR D B k form fn on w1 L w s21 s24 s25 s19 s26 s27 s6 s7):IR D B k form fn on w1 (L|||1<<<8) w s21 s24 s25 s19 s26 (qh yH) s6 s7:=
 ⟨fun d e=>h.i1 (by rwa[bt qW]at d) (by rwa[bt qW]at e),fun a=>h.i4 (by rwa[bt qW]at a),fun a=>h.i5 (by rwa[bt qW]at a),fun a=>h.i6 (by rwa[bt qW]at a),fun a=>h.i7 (by rwa[bt qW]at a),fun _=>rfl,fun a=>h.i11 (by rwa[bt qW]at a),fun f=>(h.i9 (by rwa[bt qW]at f)).imp fun A b=>⟨b.1,b.2.1,fun c=>b.2.2.1 (by rwa[bt qW]at c),fun c=>b.2.2.2 (by rwa[bt qW]at c)⟩,h.bl,h.le,fun k g=>bm (h.pre k g),fun a=>bm (h.cl (by rwa[bt qW]at a))⟩
theorem qFx (h:IR D B k form fn on w1 L w s21 s24 s25 s19 s26 s27 s6 s7):IR D B k form fn on w1 (L|||1<<<11) w s21 s24 s25 s19 s26 s27 s6 (qh yH):=
 ⟨fun d e=>h.i1 (by rwa[bt qW]at d) (by rwa[bt qW]at e),fun a=>h.i4 (by rwa[bt qW]at a),fun a=>h.i5 (by rwa[bt qW]at a),fun a=>h.i6 (by rwa[bt qW]at a),fun a=>h.i7 (by rwa[bt qW]at a),fun a=>h.i8 (by rwa[bt qW]at a),fun _=>rfl,fun f=>(h.i9 (by rwa[bt qW]at f)).imp fun A b=>⟨b.1,b.2.1,fun c=>b.2.2.1 (by rwa[bt qW]at c),fun c=>b.2.2.2 (by rwa[bt qW]at c)⟩,h.bl,h.le,fun k g=>bm (h.pre k g),fun a=>bm (h.cl (by rwa[bt qW]at a))⟩
theorem ir1 (h:IR D B k form fn on w1 L w s21 s24 s25 s19 s26 s27 s6 s7) {M c:Nat} {d:Array MapEntry} (f:yM w w w') (j:B<=M) (l:w'.heap[M]? =yA (.map d c)) (g:Knows D d.toList):IR D B k form fn on w1 (L|||1<<<1) w' (.map (yA M)) s24 s25 s19 s26 s27 s6 s7:=
 ⟨fun _ _=>⟨M,d,c,rfl,j,l,g⟩,fun a=>h.i4 (by rwa[bt qW]at a),fun a=>h.i5 (by rwa[bt qW]at a),fun a=>h.i6 (by rwa[bt qW]at a),fun a=>h.i7 (by rwa[bt qW]at a),fun a=>h.i8 (by rwa[bt qW]at a),fun a=>h.i11 (by rwa[bt qW]at a),fun i=>(h.i9 (by rwa[bt qW]at i)).imp fun A b=>⟨b.1,b.2.1,fun e=>(fun x=>zAb x f) (b.2.2.1 (by rwa[bt qW]at e)),fun e=>(fun x=>zAb x f) (b.2.2.2 (by rwa[bt qW]at e))⟩,h.bl.trans (f.mono (qP2 h.le h.bl.size)),h.le,fun k g=>bm (h.pre k g),fun a=>bm (h.cl (by rwa[bt qW]at a))⟩
theorem ir9 (h:IR D B k form fn on w1 L w s21 s24 s25 s19 s26 s27 s6 s7) (m:L.testBit 9=yI):IR D B k form fn on w1 (L|||1<<<9) (w.alloc (qp #[qY ⟨#[]⟩,qj,qh yI] zEe)) s21 s24 s25 s19 s26 s27 (qc (yA ⟨w,0,yB⟩)) s7:=
 ⟨fun j l=>(h.i1 (by rwa[bt qW]at j) (by rwa[bt qW]at l)).imp fun M ⟨g,c,b,d,e,f⟩=>⟨g,c,b,d,zAb e ((yR _ _).alloc (qPq _) _),f⟩,fun a=>h.i4 (by rwa[bt qW]at a),fun a=>h.i5 (by rwa[bt qW]at a),fun a=>h.i6 (by rwa[bt qW]at a),fun a=>h.i7 (by rwa[bt qW]at a),fun a=>h.i8 (by rwa[bt qW]at a),fun a=>h.i11 (by rwa[bt qW]at a),fun _=>⟨w.heap.size,rfl,qP2 h.le h.bl.size,fun _=>zAh w _,fun i=>(by have:=h.cl (by rwa[bt qW]at i);rw[m]at this;cases this)⟩,h.bl.trans ((yR _ _).alloc (qP2 h.le h.bl.size) _),h.le,fun k n=>bm (h.pre k n),fun a=>bm (h.cl (by rwa[bt qW]at a))⟩
theorem qFy {A:Nat} (h:IR D B k form fn on w1 L w s21 s24 s25 s19 s26 s27 (qc (yA ⟨A,0,yB⟩)) s7) (e:L.testBit 9=yH) (d:L.testBit 5=yH) (c:B<=A) (f:yM A w w') (i:w'.heap[A]? =yA (qp #[str form,fn,qh on] zEe)):IR D B k form fn on w1 (L|||1<<<10) w' s21 s24 s25 s19 s26 s27 (qc (yA ⟨A,0,yB⟩)) s7:=
 ⟨fun _ h=>(by rw[bm d]at h;cases h),fun a=>h.i4 (by rwa[bt qW]at a),fun a=>h.i5 (by rwa[bt qW]at a),fun a=>h.i6 (by rwa[bt qW]at a),fun a=>h.i7 (by rwa[bt qW]at a),fun a=>h.i8 (by rwa[bt qW]at a),fun a=>h.i11 (by rwa[bt qW]at a),fun _=>⟨A,rfl,c,fun b=>(by rw[bs]at b;cases b),fun _=>i⟩,h.bl.trans (f.mono c),h.le,fun k g=>bm (h.pre k g),fun _=>bm e⟩
theorem zXq (h:IR D B k form fn on w1 L w s21 s24 s25 s19 s26 s27 s6 s7) (a:∀i,i<12->L.testBit i=yH):∃A,s6=qc (yA ⟨A,0,yB⟩)/\s7=qh yH/\s24=str k/\s25=qg #[row form fn on,qh yH]/\s19=qg #[row form fn on,qh yH]/\s26=row form fn on/\s27=qh yH/\B<=A/\w.heap[A]? =yA (qp #[str form,fn,qh on] zEe)/\yM B w1 w:=by
 obtain⟨A,b,c,_,d⟩:=h.i9 (a 9 qW);exact⟨A,b,h.i11 (a 11 qW),h.i4 (a 4 qW),h.i5 (a 5 qW),h.i6 (a 6 qW),h.i7 (a 7 qW),h.i8 (a 8 qW),c,d (a 10 qW),h.bl⟩
theorem zRb (w:yC):IR D w.heap.size k form fn on w LD w.drew yN yN yN yN yN yN yN yN:=by
 have no:∀b∈zL8,LD.testBit b=yI:=qW
 have g:∀b∈zL8,LD.testBit b=yH->False:=fun b a h=>by rw[no b a]at h;cases h
 exact⟨fun h=>(g 1 qW h).elim,fun h=>(g 4 qW h).elim,fun h=>(g 5 qW h).elim,fun h=>(g 6 qW h).elim,fun h=>(g 7 qW h).elim,fun h=>(g 8 qW h).elim,fun h=>(g 11 qW h).elim,fun h=>(g 9 qW h).elim,(yR _ _).drew,qPq _,fun k c=>c,fun h=>(g 10 qW h).elim⟩
end
def AK (w:yC) (G k:Nat):Prop:=AG w G (if k=0 then 0 else 1) 0 0 (if k<2 then⟨#[]⟩else zCb)
end Sh
namespace Sh
open Bt Zr Wg Ch Sq St Tn Bk Sm
def FRP (D B:Nat) (b c d a e f g h:yD):Act:=⟨#[(qc (yA ⟨D,0,yB⟩)),(qY zDz),yN,yN,(qY ⟨#[]⟩),(qZ (yA ⟨B,0,yB⟩) 3 3),g,h,yN,yN,(qY zDz),(qh yI),(qh yI),(qY zDz),(qX qo 112),(qh yI),(qh yI),(qY zDz),(qZ (yA ⟨B,0,yB⟩) 3 3),a,(qc (yA ⟨D,0,yB⟩)),b,(qZ (yA ⟨B,0,yB⟩) 3 3),(qc (yA ⟨B,0,yB⟩)),c,d,e,f,yN,yN,yN,yN,yN,yN,yN,yN,yN,yN,yN,yN,yN,yN,yN,yN,yN,yN,yN,yN,yN,yN,yN,yN,yN,yN,yN,yN,yN,yN,yN,yN,yN,yN,yN,yN,yN,yN,yN,yN,yN,yN,yN,yN,yN,yN,yN,yN,yN,yN],[]⟩
theorem qD7 (D:Nat) (a:ByteArray) (w:yC) (h:DK w D a) (q:HM w):
  yG yK 121 #[qc (yA ⟨D,0,yB⟩),qY zDz] w fun e w'=>e=qx (qY zM2)/\DK w' D zC4/\Upd w w' D:=by
 obtain⟨B,hB⟩:=zB w.heap.size;obtain⟨w1,f⟩:=zB (w.alloc (qp #[qY zIn,qY zKz,qY zBn] zAk));have N:yM w w w1:=by rw[<-f];exact(yR _ _).alloc (qPq _) _
 have z1:w1.heap[B]? =yA (qp #[qY zIn,qY zKz,qY zBn] zAk):=by rw[<-f,<-hB];exact zAh w _
 obtain⟨s,HW,Z1,K1,U1⟩:=yY (zUn w q) f z1 (h.below N) (Upd.of_below N (qP7 h.lt));rw[f,hB]at s;have o:=yT (B<w1.heap.size) (by rw[<-hB];exact qQx (by rw[<-f,zA];omega) (qPq _));clear N h f z1 q;go_enter func121,ntmps121;go_wp2_with fail;(with_reducible refine s.out.mono ?_);rintro e w1 ⟨rfl,rfl⟩;go_wp2_with fail;refine zS [] (fun _=>True) MsD 12<|zu 0 20 (zP D 0)<|zu 2 22 (qZ (yA ⟨B,0,yB⟩) 3 3)<|zu 3 23 (zP B 0)<| ?_
 refine Kit.At_.cast (a':=FRP D B yN yN yN yN yN yN yN yN) ?_ zf;refine Kit.qAo (fun L a wv=>∃a0 a1 a2 a6 a3 a4 s6 z,a=FRP D B a0 a1 a2 a6 a3 a4 s6 z/\IR D w1.heap.size [112,97,99,107] [110,104] (met 211 D) yI w1 L wv a0 a1 a2 a6 a3 a4 s6 z) zf ?_ ?_ 9 LD _ _ ⟨_,_,_,_,_,_,_,_,rfl,zRb w1⟩ zf
 .intro L a wv i m hI q hb a5;obtain⟨a0,a1,a2,a6,a3,a4,s6,z,rfl,h⟩:=hI;have hi:i<12:=(qSj.1 q).1;have P:LD.testBit i=yI:=by
   cases e:LD.testBit i with
   |false=>rfl
   |true=>rw[h.pre i e]at hb;cases hb
  have hr:=zQj i hi P;clear hi P;simp only[zL8,qP6,qT9,or_false]at hr;rcases hr with rfl|rfl|rfl|rfl|rfl|rfl|rfl|rfl|rfl
  .obtain rfl:(1:Nat)=m:=qPv q;refine⟨_,rfl,zf,zHy 171 #[qc (yA ⟨D,0,yB⟩)] zf (zQa D wv) ?_⟩;rintro e w2 ⟨M,es,c,rfl,hM,I,F,K⟩;exact⟨_,rfl,qy (qy trivial),.map (yA M),a1,a2,a6,a3,a4,s6,z,zf,ir1 h K (qP2 (qP2 h.le h.bl.size) hM) I F⟩
  .obtain rfl:(8:Nat)=m:=qPv q;have hc:wv.cell? ⟨B,0,yB⟩=yA (qY zIn):=by simp[yQ,(h.bl.block B o.out).trans Z1.out]
   refine⟨_,rfl,zf,zA9 (str [112,97,99,107]) (Kit.zM7 (t:=9) (x:= .tmp 23) rfl zf (yw (show _=yA (str [112,97,99,107])from hc) zf zf)) ⟨qy (qy trivial),a0,str [112,97,99,107],a2,a6,a3,a4,s6,z,zf,ir4 h⟩⟩
  .obtain rfl:(18:Nat)=m:=qPv q;obtain⟨M,es,c,rfl,hM,I,F⟩:=h.i1 (a5 1 zf) hb;obtain rfl:=h.i4 (a5 4 zf);refine⟨_,rfl,zf,zA9 (qg #[row [110,104] (met 211 D) yI,qh yH]) (look_eq (t:=zBt) (x:= .tmp 21) (y:= .tmp 24) rfl zf zf (zQ5 (i:=2) I F qW rfl rfl)) ⟨qy (qy trivial),.map (yA M),str [112,97,99,107],qg #[row [110,104] (met 211 D) yI,qh yH],a6,a3,a4,s6,z,zf,ir5 h⟩⟩
  .obtain rfl:(32:Nat)=m:=qPv q;obtain rfl:=h.i5 (a5 5 zf);refine⟨_,rfl,zf,zA9 (qg #[row [110,104] (met 211 D) yI,qh yH]) zf ⟨qy (qy trivial),a0,a1,qg #[row [110,104] (met 211 D) yI,qh yH],qg #[row [110,104] (met 211 D) yI,qh yH],a3,a4,s6,z,zf,ir6 h⟩⟩
  .obtain rfl:(64:Nat)=m:=qPv q;obtain rfl:=h.i6 (a5 6 zf);refine⟨_,rfl,zf,zA9 (row [110,104] (met 211 D) yI) zf ⟨qy (qy trivial),a0,a1,a2,qg #[row [110,104] (met 211 D) yI,qh yH],row [110,104] (met 211 D) yI,a4,s6,z,zf,ir7 h⟩⟩
  .obtain rfl:(64:Nat)=m:=qPv q;obtain rfl:=h.i6 (a5 6 zf);refine⟨_,rfl,zf,zA9 (qh yH) zf ⟨qy (qy trivial),a0,a1,a2,qg #[row [110,104] (met 211 D) yI,qh yH],a3,qh yH,s6,z,zf,ir8 h⟩⟩
  .obtain rfl:(0:Nat)=m:=qPv q;refine⟨_,rfl,zf,zA9 (w':=wv.alloc (qp #[qY ⟨#[]⟩,qj,qh yI] zEe)) (qc (yA ⟨wv,0,yB⟩)) zf ⟨qy (qy trivial),a0,a1,a2,a6,a3,a4,qc (yA ⟨wv,0,yB⟩),z,zf,ir9 h hb⟩⟩
  .obtain rfl:(767:Nat)=m:=qPv q;obtain⟨A,rfl,hA,X,_⟩:=h.i9 (a5 9 zf);obtain rfl:=h.i7 (a5 7 zf);obtain⟨w2,Y,S,K⟩:=zWq (u':=str [110,104]) (v':=met 211 D) (x':=qh yI) (X hb) (by simp[Value.oneCell',str,met]);refine⟨_,rfl,zf,zQ1 (xI (t:=zEe) (x:= .tmp 6) (y:= .tmp 26) rfl zf zf Y) ⟨qy (qy trivial),a0,a1,a2,a6,row [110,104] (met 211 D) yI,a4,qc (yA ⟨A,0,yB⟩),z,zf,qFy h (a5 9 zf) (a5 5 zf) hA (K A (qPq _)) S⟩⟩
  .obtain rfl:(2047:Nat)=m:=qPv q;obtain rfl:=h.i8 (a5 8 zf);refine⟨_,rfl,zf,zA9 (qh yH) zf ⟨qy (qy trivial),a0,a1,a2,a6,a3,qh yH,s6,qh yH,zf,qFx h⟩⟩
 intro L ac wr hI a7;obtain⟨a0,a1,a2,a6,a3,a4,s6,z,rfl,h⟩:=hI;obtain⟨A,rfl,rfl,rfl,rfl,rfl,rfl,rfl,hA,hz,j⟩:=zXq h (fun i hi=>a7 i hi);clear h a7;obtain⟨Z2,K2,U2⟩:=yV ((j.block B o.out).trans Z1.out) (K1.out.below j) (U1.out.trans (Upd.of_below j (qP7 K1.out.lt)));have O:=yT (D<A) (qQx K1.out.lt hA);have p:=yT (B<A) (qQx o.out hA);have RA:=zH hz;obtain⟨c0,c1,c2,f0,f1,f2⟩:=zBi hz;simp only[str]at c0;obtain⟨C1,C2⟩:=yU c1 c2;clear c1 c2 f0 f1 f2 hz j Z1 K1 U1 o s HW hA;obtain⟨G,hG⟩:=zB wr.heap.size;obtain⟨w3,l⟩:=zB (wr.alloc (qp #[qX qm 0,qX qm 0,qX qm 0,qY ⟨#[]⟩] zJc));have g:yM wr wr w3:=by rw[<-l];exact(yR _ _).alloc (qPq _) _
 have G3:=yT (AG w3 G 0 0 0 ⟨#[]⟩) (by rw[<-l,<-hG];exact zAh wr _);obtain⟨K3,U3,Z3,R3⟩:=yX (K2.out.below g) (U2.out.trans (Upd.of_below g (qP7 K2.out.lt))) (zAb Z2.out g) (zAb RA.out g);have d:=yT (A<G) (by rw[<-hG];exact zAd RA.out);obtain⟨R,HG⟩:=yU l hG;clear hG l g K2 U2 Z2 RA C1 C2;simp only[FRP];go_wp2_with fail;clear c0;rw[HG.out,show wr.alloc (qp #[qX qm 0,qX qm 0,qX qm 0,qY ⟨#[]⟩] zJc)=w3 from R.out];go_loopw [7,9] (fun ov iv wx=>∃k:Nat,k<=2/\ov=qh yH/\iv=qX qm k/\yL (AK wx G k)/\yL (Upd w3 wx G)) (fun _ iv _=>2-(intOf iv).toNat)
 case atStart=>exact⟨0,za,rfl,rfl,zH G3.out,zH ⟨fun _ _ _=>rfl,yR _ _⟩⟩
 case round=>
  obtain⟨k,hk,rfl,rfl,n,b⟩:=hrel;have W:=zAd G3.out;obtain⟨RX,ZX⟩:=yU ((b.out.old A (by have:=d.out;omega) (by have:=d.out;omega)).trans R3.out) ((b.out.old B (by have:=d.out;have:=p.out;omega) (by have:=d.out;have:=p.out;omega)).trans Z3.out);have c0:wr.cell? ⟨A,0,yB⟩=yA (qY ⟨#[110,104]⟩):=by simp[yQ,RX.out,str]
  clear W;obtain rfl|rfl|rfl:k=0\/k=1\/k=2:=za
  .rw[show((0:Nat):Int)=0 from rfl];go_wp2_with fail;have CF:=zH c0;have CW:=yT (wr.drew.cell? ⟨B,1,yB⟩=yA (qY zKz)) (zBi ZX.out).2.1;have r:=zH (qEs G 0 0 0 ⟨#[]⟩ wr.drew n.out);clear c0;refine zS [] (fun _=>True) [0,0,2,0,12,0,0,64,160,256,529,2047] 12<|zp [0,1,2,3,4,5,6,7,8,9]<|zk 48 (qX qm 0)<|zk 49 (zP A 0)<|zt 50 (qY ⟨#[110,104]⟩) (zl 9 49 (yw CF.out zf zf))<|zk 51 (qX qm 0)<|zk 52 (qX qo 110)<|zk 53 (qZ (yA ⟨B,0,yB⟩) 3 3)<|zk 54 (qX qm 0)<|zk 55 (qX qm 1)<|zk 56 (zP B 1)<|zt 57 (qY zKz) (zl 9 56 (yw CW.out zf zf))<|zn<|zx 10 58 172 #[qc (yA ⟨G,0,yB⟩),qX qm 0,qX qo 110,qY zKz] r.out<| ?_
   rintro e w5 ⟨rfl,H,u⟩;refine⟨_,rfl,qy (qy trivial),?_⟩;refine zp [11]<|zk 7 (qh yH)<|zn<|zE<| ?_
   simp only[zP,zI,Act.put,qPx,qPw,qPy];go_wp2;go_roundw
   case rel=>exact⟨1,za,rfl,rfl,zH H,zH ((b.out.trans (Upd.drew wr G)).trans u)⟩
   case measure=>exact z8
  .rw[show((1:Nat):Int)=1 from rfl];go_wp2_with fail;have CF:=zH c0;have CW:=yT (wr.drew.cell? ⟨B,2,yB⟩=yA (qY zBn)) (zBi ZX.out).2.2.1;have r:=zH (qEt G 1 0 0 ⟨#[]⟩ wr.drew n.out);clear c0;refine zS [] (fun _=>True) [0,0,2,0,12,0,0,64,160,256,529,2047] 12<|zp [0,1,2,3,4,5,6,7,8,9]<|zk 48 (qX qm 1)<|zk 49 (zP A 0)<|zt 50 (qY ⟨#[110,104]⟩) (zl 9 49 (yw CF.out zf zf))<|zk 51 (qX qm 1)<|zk 52 (qX qo 104)<|zk 53 (qZ (yA ⟨B,0,yB⟩) 3 3)<|zk 54 (qX qm 1)<|zk 55 (qX qm 2)<|zk 56 (zP B 2)<|zt 57 (qY zBn) (zl 9 56 (yw CW.out zf zf))<|zn<|zx 10 58 172 #[qc (yA ⟨G,0,yB⟩),qX qm 1,qX qo 104,qY zBn] r.out<| ?_
   rintro e w5 ⟨rfl,H,u⟩;refine⟨_,rfl,qy (qy trivial),?_⟩;refine zp [11]<|zk 7 (qh yH)<|zn<|zE<| ?_
   simp only[zP,zI,Act.put,qPx,qPw,qPy];go_wp2;go_roundw
   case rel=>exact⟨2,za,rfl,rfl,zH H,zH ((b.out.trans (Upd.drew wr G)).trans u)⟩
   case measure=>exact z8
  .rw[show((2:Nat):Int)=2 from rfl];have c1:wr.cell? ⟨A,1,yB⟩=yA (.func (.func 211) #[qc (yA ⟨D,0,yB⟩)] #[]):=(zBi RX.out).2.1;have c2:wr.cell? ⟨A,2,yB⟩=yA (qh yI):=(zBi RX.out).2.2.1;have Z:D<w3.heap.size:=K3.out.lt;have KX:=yT (DK wr D a) ((b.out.old D Z (by have:=O.out;have:=d.out;omega)).trans K3.out);have c9:=KX.out.c9;have f9:=KX.out.fr 9;have UX:=yT (Upd w wr D) ⟨fun k h1 h2=>(b.out.old k (qQx h1 U3.out.below.size) (by have:=p.out;have:=d.out;omega)).trans (U3.out.old k h1 h2),U3.out.below.trans (b.out.below.mono (by have:=O.out;have:=d.out;omega))⟩;have V:=zH (qFd D a wr KX.out);have ag:AG wr G 1 0 0 zCb:=n.out;obtain⟨⟨g0,g1,g2,g3⟩,q0,q1,q2,q3⟩:=zDf ag;clear n b ag KX q0 q1 q2 q3;go_wp2_with fail;(with_reducible refine V.out.mono ?_);rintro e w6 ⟨rfl,k6,u6⟩;obtain⟨K6,U6⟩:=yU k6 (UX.out.trans u6);clear k6 u6;go_wp2;go_ret;exact⟨rfl,K6.out,U6.out⟩
end Sh
namespace Sh
open Bt Zr Wg Ch Sq St Tn Bk Sm
def FRS (D B:Nat) (b c d a e f g h:yD):Act:=⟨#[(qc (yA ⟨D,0,yB⟩)),(qY zA5),yN,yN,(qY ⟨#[]⟩),(qZ (yA ⟨B,0,yB⟩) 1 1),g,h,yN,yN,(qY zA5),(qh yI),(qh yI),(qY zA5),(qX qo 115),(qh yI),(qh yI),(qY zA5),(qZ (yA ⟨B,0,yB⟩) 1 1),a,(qc (yA ⟨D,0,yB⟩)),b,(qZ (yA ⟨B,0,yB⟩) 1 1),(qc (yA ⟨B,0,yB⟩)),c,d,e,f,yN,yN,yN,yN,yN,yN,yN,yN,yN,yN,yN,yN,yN,yN,yN,yN,yN,yN,yN,yN,yN,yN,yN,yN,yN,yN,yN,yN,yN,yN,yN,yN,yN,yN,yN,yN,yN,yN,yN,yN,yN,yN,yN,yN,yN,yN,yN,yN,yN,yN],[]⟩
theorem qG (D:Nat) (w:yC) (h:DK w D zC4) (q:HM w):
  yG yK 121 #[qc (yA ⟨D,0,yB⟩),qY zA5] w fun e w'=>e=qx (qY zJh)/\DK w' D zC4/\Upd w w' D:=by
 obtain⟨B,hB⟩:=zB w.heap.size;obtain⟨w1,d⟩:=zB (w.alloc (qp #[qY zA5] zAk));have F:yM w w w1:=by rw[<-d];exact(yR _ _).alloc (qPq _) _
 have z1:w1.heap[B]? =yA (qp #[qY zA5] zAk):=by rw[<-d,<-hB];exact zAh w _
 obtain⟨p,HW,Z1,K1,U1⟩:=yY (zWs w q) d z1 (h.below F) (Upd.of_below F (qP7 h.lt));rw[d,hB]at p;have n:=yT (B<w1.heap.size) (by rw[<-hB];exact qQx (by rw[<-d,zA];omega) (qPq _));clear F h d z1 q;go_enter func121,ntmps121;go_wp2_with fail;(with_reducible refine p.out.mono ?_);rintro e w1 ⟨rfl,rfl⟩;go_wp2_with fail;refine zS [] (fun _=>True) MsD 12<|zu 0 20 (zP D 0)<|zu 2 22 (qZ (yA ⟨B,0,yB⟩) 1 1)<|zu 3 23 (zP B 0)<| ?_
 refine Kit.At_.cast (a':=FRS D B yN yN yN yN yN yN yN yN) ?_ zf;refine Kit.qAo (fun L a wv=>∃X Y Z a3 a0 a1 s6 z,a=FRS D B X Y Z a3 a0 a1 s6 z/\IR D w1.heap.size [115,97,121] [] (met 216 D) yI w1 L wv X Y Z a3 a0 a1 s6 z) zf ?_ ?_ 9 LD _ _ ⟨_,_,_,_,_,_,_,_,rfl,zRb w1⟩ zf
 .intro L a wv i m hI q hb a2;obtain⟨X,Y,Z,a3,a0,a1,s6,z,rfl,h⟩:=hI;have hi:i<12:=(qSj.1 q).1;have K:LD.testBit i=yI:=by
   cases e:LD.testBit i with
   |false=>rfl
   |true=>rw[h.pre i e]at hb;cases hb
  have hr:=zQj i hi K;clear hi K;simp only[zL8,qP6,qT9,or_false]at hr;rcases hr with rfl|rfl|rfl|rfl|rfl|rfl|rfl|rfl|rfl
  .obtain rfl:(1:Nat)=m:=qPv q;refine⟨_,rfl,zf,zHy 171 #[qc (yA ⟨D,0,yB⟩)] zf (zQa D wv) ?_⟩;rintro e w2 ⟨M,es,c,rfl,hM,s,r,u⟩;exact⟨_,rfl,qy (qy trivial),.map (yA M),Y,Z,a3,a0,a1,s6,z,zf,ir1 h u (qP2 (qP2 h.le h.bl.size) hM) s r⟩
  .obtain rfl:(8:Nat)=m:=qPv q;have hc:wv.cell? ⟨B,0,yB⟩=yA (qY zA5):=by simp[yQ,(h.bl.block B n.out).trans Z1.out]
   refine⟨_,rfl,zf,zA9 (str [115,97,121]) (Kit.zM7 (t:=9) (x:= .tmp 23) rfl zf (yw (show _=yA (str [115,97,121])from hc) zf zf)) ⟨qy (qy trivial),X,str [115,97,121],Z,a3,a0,a1,s6,z,zf,ir4 h⟩⟩
  .obtain rfl:(18:Nat)=m:=qPv q;obtain⟨M,es,c,rfl,hM,s,r⟩:=h.i1 (a2 1 zf) hb;obtain rfl:=h.i4 (a2 4 zf);refine⟨_,rfl,zf,zA9 (qg #[row [] (met 216 D) yI,qh yH]) (look_eq (t:=zBt) (x:= .tmp 21) (y:= .tmp 24) rfl zf zf (zQ5 (i:=7) s r qW rfl rfl)) ⟨qy (qy trivial),.map (yA M),str [115,97,121],qg #[row [] (met 216 D) yI,qh yH],a3,a0,a1,s6,z,zf,ir5 h⟩⟩
  .obtain rfl:(32:Nat)=m:=qPv q;obtain rfl:=h.i5 (a2 5 zf);refine⟨_,rfl,zf,zA9 (qg #[row [] (met 216 D) yI,qh yH]) zf ⟨qy (qy trivial),X,Y,qg #[row [] (met 216 D) yI,qh yH],qg #[row [] (met 216 D) yI,qh yH],a0,a1,s6,z,zf,ir6 h⟩⟩
  .obtain rfl:(64:Nat)=m:=qPv q;obtain rfl:=h.i6 (a2 6 zf);refine⟨_,rfl,zf,zA9 (row [] (met 216 D) yI) zf ⟨qy (qy trivial),X,Y,Z,qg #[row [] (met 216 D) yI,qh yH],row [] (met 216 D) yI,a1,s6,z,zf,ir7 h⟩⟩
  .obtain rfl:(64:Nat)=m:=qPv q;obtain rfl:=h.i6 (a2 6 zf);refine⟨_,rfl,zf,zA9 (qh yH) zf ⟨qy (qy trivial),X,Y,Z,qg #[row [] (met 216 D) yI,qh yH],a0,qh yH,s6,z,zf,ir8 h⟩⟩
  .obtain rfl:(0:Nat)=m:=qPv q;refine⟨_,rfl,zf,zA9 (w':=wv.alloc (qp #[qY ⟨#[]⟩,qj,qh yI] zEe)) (qc (yA ⟨wv,0,yB⟩)) zf ⟨qy (qy trivial),X,Y,Z,a3,a0,a1,qc (yA ⟨wv,0,yB⟩),z,zf,ir9 h hb⟩⟩
  .obtain rfl:(767:Nat)=m:=qPv q;obtain⟨A,rfl,hA,S,_⟩:=h.i9 (a2 9 zf);obtain rfl:=h.i7 (a2 7 zf);obtain⟨w2,V,O,u⟩:=zWq (u':=str []) (v':=met 216 D) (x':=qh yI) (S hb) (by simp[Value.oneCell',str,met]);refine⟨_,rfl,zf,zQ1 (xI (t:=zEe) (x:= .tmp 6) (y:= .tmp 26) rfl zf zf V) ⟨qy (qy trivial),X,Y,Z,a3,row [] (met 216 D) yI,a1,qc (yA ⟨A,0,yB⟩),z,zf,qFy h (a2 9 zf) (a2 5 zf) hA (u A (qPq _)) O⟩⟩
  .obtain rfl:(2047:Nat)=m:=qPv q;obtain rfl:=h.i8 (a2 8 zf);refine⟨_,rfl,zf,zA9 (qh yH) zf ⟨qy (qy trivial),X,Y,Z,a3,a0,qh yH,s6,qh yH,zf,qFx h⟩⟩
 intro L ac wr hI a4;obtain⟨X,Y,Z,a3,a0,a1,s6,z,rfl,h⟩:=hI;obtain⟨A,rfl,rfl,rfl,rfl,rfl,rfl,rfl,hA,hz,j⟩:=zXq h (fun i hi=>a4 i hi);clear h a4;obtain⟨Z2,K2,U2⟩:=yV ((j.block B n.out).trans Z1.out) (K1.out.below j) (U1.out.trans (Upd.of_below j (qP7 K1.out.lt)));have H:=yT (D<A) (qQx K1.out.lt hA);have o:=yT (B<A) (qQx n.out hA);have RA:=zH hz;obtain⟨c0,c1,c2,f0,f1,f2⟩:=zBi hz;simp only[str]at c0;obtain⟨C1,C2⟩:=yU c1 c2;clear c1 c2 f0 f1 f2 hz j Z1 K1 U1 n p HW hA;obtain⟨G,hG⟩:=zB wr.heap.size;obtain⟨w3,l⟩:=zB (wr.alloc (qp #[qX qm 0,qX qm 0,qX qm 0,qY ⟨#[]⟩] zJc));have g:yM wr wr w3:=by rw[<-l];exact(yR _ _).alloc (qPq _) _
 have G3:=yT (AG w3 G 0 0 0 ⟨#[]⟩) (by rw[<-l,<-hG];exact zAh wr _);obtain⟨K3,U3,Z3,R3⟩:=yX (K2.out.below g) (U2.out.trans (Upd.of_below g (qP7 K2.out.lt))) (zAb Z2.out g) (zAb RA.out g);have b:=yT (A<G) (by rw[<-hG];exact zAd RA.out);obtain⟨N,HG⟩:=yU l hG;clear hG l g K2 U2 Z2 RA C1 C2;simp only[FRS];go_wp2_with fail;clear c0;rw[HG.out,show wr.alloc (qp #[qX qm 0,qX qm 0,qX qm 0,qY ⟨#[]⟩] zJc)=w3 from N.out];go_loopw [7,9] (fun ov iv wx=>∃k:Nat,k<=0/\ov=qh yH/\iv=qX qm k/\yL (AK wx G k)/\yL (Upd w3 wx G)) (fun _ iv _=>0-(intOf iv).toNat)
 case atStart=>exact⟨0,za,rfl,rfl,zH G3.out,zH ⟨fun _ _ _=>rfl,yR _ _⟩⟩
 case round=>
  obtain⟨k,hk,rfl,rfl,I,f⟩:=hrel;have R:=zAd G3.out;obtain⟨RX,ZX⟩:=yU ((f.out.old A (by have:=b.out;omega) (by have:=b.out;omega)).trans R3.out) ((f.out.old B (by have:=b.out;have:=o.out;omega) (by have:=b.out;have:=o.out;omega)).trans Z3.out);have c0:wr.cell? ⟨A,0,yB⟩=yA (qY ⟨#[]⟩):=by simp[yQ,RX.out,str]
  clear R;obtain rfl:k=0:=za
  .rw[show((0:Nat):Int)=0 from rfl];have c1:wr.cell? ⟨A,1,yB⟩=yA (.func (.func 216) #[qc (yA ⟨D,0,yB⟩)] #[]):=(zBi RX.out).2.1;have c2:wr.cell? ⟨A,2,yB⟩=yA (qh yI):=(zBi RX.out).2.2.1;have W:D<w3.heap.size:=K3.out.lt;have KX:=yT (DK wr D zC4) ((f.out.old D W (by have:=H.out;have:=b.out;omega)).trans K3.out);have c9:=KX.out.c9;have f9:=KX.out.fr 9;have UX:=yT (Upd w wr D) ⟨fun k h1 h2=>(f.out.old k (qQx h1 U3.out.below.size) (by have:=o.out;have:=b.out;omega)).trans (U3.out.old k h1 h2),U3.out.below.trans (f.out.below.mono (by have:=H.out;have:=b.out;omega))⟩;have P:=zH (qG5 D 0 0 0 ⟨#[]⟩ wr KX.out);have ag:AG wr G 0 0 0 ⟨#[]⟩:=I.out;obtain⟨⟨g0,g1,g2,g3⟩,q0,q1,q2,q3⟩:=zDf ag;clear I f ag KX q0 q1 q2 q3;go_wp2_with fail;(with_reducible refine P.out.mono ?_);rintro e w6 ⟨rfl,k6,u6⟩;obtain⟨K6,U6⟩:=yU k6 (UX.out.trans u6);clear k6 u6;go_wp2;go_ret;exact⟨rfl,K6.out,U6.out⟩
end Sh
namespace Sh
open Bt Zr Ch Sq St Tn Bk Sm
variable {w w':yC} {B:Nat}
abbrev qHs:ByteArray:=⟨#[111,107,10,115,97,121,32,54,49,54,50,10]⟩
theorem zU {b D:Nat} {l:List UInt8} {a:ByteArray} (h:kG w B b l) (hd:DK w D a) (d:Upd w w' D):kG w' B b l:=by
 refine h.kept (row:=yA D) ⟨d.below.os,d.below.tape,d.below.output,d.below.size,fun k g hne=>d.old k g (fun e=>hne (by rw[e]))⟩ ?_;intro r i;obtain rfl:=qPv i;refine⟨_,hd,fun c f e=> ?_,fun c f e=> ?_⟩
 .injection e with _ e2 _
  exact absurd e2 qW
 .injection e with _ e2 _
  exact absurd e2 qW
theorem HM.below (h:HM w) (b:yM B w w') (a:0<B):HM w':=by
 obtain⟨m,h⟩:=h;exact⟨m,by rw[b.cell (p:=⟨0,0,yB⟩) a];exact h⟩
theorem HM.lt (h:HM w):0<w.heap.size:=by
 obtain⟨m,h⟩:=h;exact qQk h
structure RI (B D b k:Nat) (w:yC):Prop where
 dk:DK w D (if k=0 then⟨#[]⟩else zC4)
 bl:kG w b b (if k=0 then[]else if k=1 then[111,107,10]else[111,107,10,115,97,121,32,54,49,54,50,10])
 ls:w.heap[B]? =yA (qp #[qY zE1,qY zE0,qY ⟨#[]⟩] zAk)
 hm:HM w
 le:b<=w.heap.size
theorem qCu (w:yC) (Y:HM w):yG yK 43 #[qY zPl] w fun e w'=>e=qx (qg #[qY qHs,qX qm 0])/\yM w w w':=by
 obtain⟨B,z⟩:=zB w.heap.size;obtain⟨y,j⟩:=zB (w.alloc (qp #[qY zE1,qY zE0,qY ⟨#[]⟩] zAk));obtain⟨D,N⟩:=zB y.heap.size;obtain⟨w2,i⟩:=zB (y.alloc (qp #[qY ⟨#[]⟩,qY ⟨#[]⟩,qY ⟨#[]⟩,qZ yB 0 0,qX qm 0,qX qm 0,qZ yB 0 0,qZ yB 0 0,qX qm 0,qh yI] TDk));obtain⟨b,O⟩:=zB w2.heap.size;obtain⟨W,g⟩:=zB (w2.alloc (qp #[qc yB,qZ yB 0 0] Rle.TB));have z1:D=B+1:=by rw[<-N,<-j,zA,z]
 have z2:b=B+2:=by rw[<-O,<-i,zA,N,z1]
 have z3:W.heap.size=B+3:=by rw[<-g,zA,O,z2]
 have b1:yM B w y:=by rw[<-j,<-z];exact(yR _ _).alloc (qPq _) _
 have X:yM D y w2:=by rw[<-i,<-N];exact(yR _ _).alloc (qPq _) _
 have R:yM b w2 W:=by rw[<-g,<-O];exact(yR _ _).alloc (qPq _) _
 have r:y.heap[B]? =yA (qp #[qY zE1,qY zE0,qY ⟨#[]⟩] zAk):=by rw[<-j,<-z];exact zAh w _
 have t:DK w2 D ⟨#[]⟩:=by rw[<-i,<-N];exact zAh y _
 have h0:0<B:=by rw[<-z];exact Y.lt
 have u:=yT (RI B D b 0 W) ⟨(R.block D za).trans t,by rw[<-g,<-O];exact Rle.Bld.new w2,(R.block B za).trans ((X.block B za).trans r),((Y.below b1 h0).below X za).below R za,za⟩;have BL:=yT (yM B w W) (b1.trans ((X.mono za).trans (R.mono za)));have G:=zH (zVv w Y);rw[z,j]at G;have x:=zBi r;have c2:=x.2.2.1;obtain⟨I,H,HD,HB,M⟩:=yY i g N O (yS z1 (yS z2 h0));rw[z];clear j i g z1 z2 z3 b1 X R r t h0 Y x z N O;go_enter func43,ntmps43;go_wp2_with fail;(with_reducible refine G.out.mono ?_);rintro e y ⟨rfl,rfl⟩;go_wp2_with fail;clear c2;rw[HD.out,show y.alloc (qp #[qY ⟨#[]⟩,qY ⟨#[]⟩,qY ⟨#[]⟩,qZ yB 0 0,qX qm 0,qX qm 0,qZ yB 0 0,qZ yB 0 0,qX qm 0,qh yI] TDk)=w2 from I.out,show D+1=b from(by have:=M.out;omega),show w2.alloc (qp #[qc yB,qZ yB 0 0] Rle.TB)=W from H.out];go_loopw [33] (fun iv wr=>∃k:Nat,k<=2/\iv=qX qm k/\yL (RI B D b k wr)/\yL (yM B w wr)) (fun iv _=>2-(intOf iv).toNat)
 case atStart=>exact⟨0,za,rfl,u,BL⟩
 case round=>
  clear u BL;obtain⟨k,hk,rfl,a,f⟩:=hrel;obtain⟨l0,l1,_⟩:=zBi a.out.ls;obtain rfl|rfl|rfl:k=0\/k=1\/k=2:=za
  .rw[show((0:Nat):Int)=0 from rfl];go_wp2_with fail;(with_reducible refine(zWc wr).mono ?_);rintro e s ⟨rfl,rfl⟩;have l:=zH (qD7 D _ s a.out.dk a.out.hm);clear l0 l1;go_wp2_with fail;(with_reducible refine l.out.mono ?_);rintro e w4 ⟨rfl,V,q⟩;have d:=M.out;obtain⟨K4,Z,L4,M4,P,p⟩:=yZ V (zU a.out.bl a.out.dk q) ((q.old B (by have:=zAd a.out.ls;omega) za).trans a.out.ls) (a.out.hm.below q.below za) (qP2 a.out.le q.below.size) (f.out.trans (q.below.mono za));have o:=zH (Rle.zB8 b b [] zM2 w4 Z.out qW P.out);clear V q a f l d;go_wp2_with fail;(with_reducible refine o.out.mono ?_);rintro e w5 ⟨rfl,S,c,_,h⟩;have d:=M.out;have n:=yT (RI B D b 1 w5) ⟨(c.block D za).trans K4.out,S,(c.block B za).trans L4.out,M4.out.below c za,qP2 P.out h⟩;have m:=zH (p.out.trans (c.mono za));clear S c h d;go_wp2;go_roundw
   case rel=>exact⟨1,za,rfl,n,m⟩
   case measure=>exact z8
  .rw[show((1:Nat):Int)=1 from rfl];go_wp2_with fail;(with_reducible refine(zY6 wr).mono ?_);rintro e s ⟨rfl,rfl⟩;have l:=zH (qG D s a.out.dk a.out.hm);clear l0 l1;go_wp2_with fail;(with_reducible refine l.out.mono ?_);rintro e w4 ⟨rfl,V,q⟩;have d:=M.out;obtain⟨K4,Z,L4,M4,P,p⟩:=yZ V (zU a.out.bl a.out.dk q) ((q.old B (by have:=zAd a.out.ls;omega) za).trans a.out.ls) (a.out.hm.below q.below za) (qP2 a.out.le q.below.size) (f.out.trans (q.below.mono za));have o:=zH (Rle.zB8 b b [111,107,10] zJh w4 Z.out qW P.out);clear V q a f l d;go_wp2_with fail;(with_reducible refine o.out.mono ?_);rintro e w5 ⟨rfl,S,c,_,h⟩;have d:=M.out;have n:=yT (RI B D b 2 w5) ⟨(c.block D za).trans K4.out,S,(c.block B za).trans L4.out,M4.out.below c za,qP2 P.out h⟩;have m:=zH (p.out.trans (c.mono za));clear S c h d;go_wp2;go_roundw
   case rel=>exact⟨2,za,rfl,n,m⟩
   case measure=>exact z8
  .rw[show((2:Nat):Int)=2 from rfl];have L:=zH (Rle.zD0 b b [111,107,10,115,97,121,32,54,49,54,50,10] wr a.out.bl a.out.le);clear l0 l1 a;go_wp2_with fail;(with_reducible refine L.out.mono ?_);rintro e w7 ⟨rfl,F,_⟩;have K:=zH (f.out.trans (F.mono (by have:=M.out;omega)));clear F f;go_wp2;go_ret2;exact⟨rfl,K.out⟩
end Sh
namespace Al
open Hf Bt Zr Front Wg Sl Us St Tn
abbrev zDh:yD:=qX qm 1
theorem zM4 (w:yC) (u v:yD) (t:yE):yt (w.alloc (qp #[u,v] t)) (yA ⟨w,0,yB⟩) [u,v]:=by
 intro j x a
 match j,a with
 |0,a=>exact⟨_,_,rfl,by simp at a;subst a;simp⟩
 |1,a=>exact⟨_,_,rfl,by simp at a;subst a;simp⟩
theorem zXj (a:Option yF) (w:yC) (d:yt w a [zDh,zDh]):yG yK 44 #[qZ a 2 2,qX qm 9] w fun e w'=>∃G,e=qx (qg #[qZ (yA ⟨G,0,yB⟩) 2 2,qX qm 0])/\yM w w w':=by
 have h:=zKj [1,1] a 2 2 9 w rfl za za d qW qW za za qW;exact h.mono fun e w' ⟨G,b,_,_,_,c⟩=>⟨G,b,c⟩
theorem qE5 (a:Option yF) (w:yC) (b:yt w a [zDh]):yG yK 26 #[qZ a 1 1,qX qm 2] w fun e w'=>e=qx (qg #[.agg #[qY (pk (zAz yI [1])),qX qm 2],qX qm 0])/\yM w w w':=
 zK2 [1] a 1 1 w rfl za b qW
theorem qF9 (a:Option yF) (w:yC) (b:yt w a [zDh,zDh]):yG yK 27 #[qZ a 2 2] w fun e w'=>e=qx (qg #[.agg #[qY (pk (delta [1,1])),qX qm 7],qX qm 0])/\yM w w w':=by
 have h:=zLj [1,1] a 2 2 w rfl za za b qW qW;rw[show zAe (delta [1,1])= .agg #[qY (pk (delta [1,1])),qX qm 7]from by unfold zAe;rw[show(delta [1,1]).length=7 from qW];rfl]at h;exact h
theorem qD4 (a:Option yF) (w:yC) (b:yt w a [zDh]):yG yK 38 #[qY ⟨#[97,98]⟩,qZ a 1 1] w fun e w'=>e=qx (qg #[qY ⟨#[98]⟩,qX qm 0])/\yM w w w':=by
 have h:=Front.zLq ⟨#[97,98]⟩ qW a 1 1 [1] rfl za w b;unfold Front.zSb at h;rw[show(⟨(Front.zIv [97,98] [1]).toArray⟩:ByteArray)=⟨#[98]⟩from qW,show Front.zC3 [97,98] [1]=0 from qW]at h;exact h
theorem qEm:zA7 [98,97]=[1,0]:=by
 simp[zA7,sorted,List.mergeSort,yO,List.range.loop,List.MergeSort.Internal.splitInTwo,List.merge];decide
theorem zY3 (w:yC):yG yK 39 #[qY ⟨#[98,97]⟩,qX qm 1] w fun e w'=>e=qx (qg #[qY ⟨#[98,97]⟩,qX qm 0])/\yM w w w':=by
 have h:=zHm ⟨#[98,97]⟩ 1 qW qW w;rw[show(⟨(unL ⟨#[98,97]⟩ 1).toArray⟩:ByteArray)=⟨#[98,97]⟩from by unfold unL;rw[show bl ⟨#[98,97]⟩=[98,97]from qW,qEm];decide]at h;exact h
theorem qEa (a:Option yF) (w:yC) (b:yt w a [zDh,zDh]):yG yK 45 #[qZ a 2 2] w fun e w'=>e=qx (qX qm 0)/\yM w w w':=
 zCk [1,1] a 2 2 w rfl b ⟨qW,qW,qW,qW,qW⟩
theorem qGz (w:yC):yG yK 25 #[qY ⟨#[]⟩] w fun e w'=>e=qx (qX .u32 0)/\yM w w w':=by
 have h:=Crc.zG7 ⟨#[]⟩ qW w;rw[show Crc.U (Crc.sum (⟨#[]⟩:ByteArray).data.toList)=0 from by unfold Crc.U;rfl]at h;exact h
theorem qEf (w:yC):yG yK 20 #[qY ⟨#[98,97]⟩] w fun e w'=>e=qx (qY ⟨#[97,98]⟩)/\yM w w w':=by
 have h:=zEc ⟨#[98,97]⟩ qW w;rw[show zAj ⟨#[98,97]⟩=⟨#[97,98]⟩from qW]at h;exact h
theorem qA9 (w:yC):yG yK 46 #[qX qm 3] w fun e w'=>∃a c,e=qx (qZ a 2 c)/\yM w w w':=by
 have h:=zMt 3 za w;rw[show(digits 3).length=2 from by simp[digits]]at h;exact h.mono fun e w' ⟨a,c,b,_,d⟩=>⟨a,c,b,d⟩
theorem qC5 (w:yC):yG yK 47 #[qY ⟨#[97,98]⟩] w fun e w'=>∃G c,e=qx (qZ (yA ⟨G,0,yB⟩) 2 c)/\yM w w w':=
 (zOm ⟨#[97,98]⟩ 2 rfl za za w).mono fun e w' ⟨a,c,b,_,d⟩=>⟨a,c,b,d⟩
end Al
namespace Al
open Bt Zr Front Ch Sl Sh
variable {w w1 w2:yC} {B:Nat}
theorem al2 {o:Obj} (h:yM B w w1/\B<=w1.heap.size) (a:yM (w1.alloc o).heap.size (w1.alloc o) w2):yM B w w2/\B<=w2.heap.size:=by
 have b:=a.size;rw[zA]at b;exact⟨h.1.trans (((yR _ _).alloc h.2 o).trans (a.mono (by rw[zA];omega))),za⟩
theorem al1 (h:yM B w w1/\B<=w1.heap.size) (a:yM w1 w1 w2):yM B w w2/\B<=w2.heap.size:=
 ⟨h.1.trans (a.mono h.2),qP2 h.2 a.size⟩
theorem zPf (w:yC) (V:HM w):yG yK 7 #[] w fun e w'=>e=qx (qh yH)/\yM w w w':=by
 obtain⟨B,r⟩:=zB w.heap.size;obtain⟨d,HB⟩:=yU (qCu w V) r;rw[r]at d⊢;clear V r;go_enter func7,ntmps7;go_wp2_with fail;(with_reducible refine d.out.mono ?_);rintro e w1 ⟨rfl,g⟩;have x:=yT (yM B w w1/\B<=w1.heap.size) ⟨g,by have:=g.size;have:=HB.out;omega⟩;clear g d;go_wp2_with fail;(with_reducible refine(zXj _ _ (zM4 w1 zDh zDh 3)).mono ?_);rintro e w2 ⟨G,rfl,k⟩;have y:=zH (al2 x.out k);clear k x;go_wp2_with fail;(with_reducible refine(qE5 _ _ (xM w2 zDh 3)).mono ?_);rintro e s ⟨rfl,n⟩;have z:=zH (al2 y.out n);clear n y;go_wp2_with fail;have p:=zM4 (s.alloc (qp #[qY (xU (zAz yI [1])),qX qm 2] 51)) zDh zDh 3;rw[zA]at p;(with_reducible refine(qF9 _ _ p).mono ?_);rintro e t ⟨rfl,f⟩;obtain⟨P,F⟩:=yU (zAb (zAb (zAh s (qp #[qY (xU (zAz yI [1])),qX qm 2] 51)) ((yR _ _).alloc (qPq _) _)) f) (al2 (al1 z.out ((yR _ _).alloc (qPq _) _)) f);clear f z p;go_wp2_with fail;have q:=xM (t.alloc (qp #[qY (xU (delta [1,1])),qX qm 7] 51)) zDh 3;rw[zA]at q;(with_reducible refine(qD4 _ _ q).mono ?_);rintro e w5 ⟨rfl,b⟩;obtain⟨R,N,H⟩:=yV (zAb (zAb (zAh t (qp #[qY (xU (delta [1,1])),qX qm 7] 51)) ((yR _ _).alloc (qPq _) _)) b) (zAb (zAb (zAb P.out ((yR _ _).alloc (qPq _) (qp #[qY (xU (delta [1,1])),qX qm 7] 51))) ((yR _ _).alloc (qPq _) _)) b) (al2 (al1 F.out ((yR _ _).alloc (qPq _) _)) b);clear b F q P;go_wp2_with fail;(with_reducible refine(zY3 _).mono ?_);rintro e u ⟨rfl,a⟩;have S:=zAb R.out a;have O:=zAb N.out a;have I:=zH (al1 H.out a);have W:u.cell? ⟨t.heap.size,1,yB⟩=yA (qX qm 7):=by simp[yQ,S]
 have c2:u.cell? ⟨s.heap.size,1,yB⟩=yA (qX qm 2):=by simp[yQ,O]
 clear a H R N S O;go_wp2_with fail;(with_reducible refine(qEa _ _ (zM4 u zDh zDh 3)).mono ?_);rintro e w7 ⟨rfl,l⟩;have K:=zH (al2 I.out l);clear l I W c2;go_wp2_with fail;(with_reducible refine(qGz _).mono ?_);rintro e w8 ⟨rfl,m⟩;have L:=zH (al1 K.out m);clear m K;go_wp2_with fail;(with_reducible refine(qEf _).mono ?_);rintro e w9 ⟨rfl,j⟩;have M:=zH (al1 L.out j);clear j L;go_wp2_with fail;(with_reducible refine(qA9 _).mono ?_);rintro e a1 ⟨X,Z,rfl,h⟩;have i:=zH (al1 M.out h);clear h M;go_wp2_with fail;(with_reducible refine(qC5 _).mono ?_);rintro e a2 ⟨Y,a0,rfl,c⟩;have o:=zH (al1 i.out c);clear c i;go_wp2;go_ret;exact⟨rfl,o.out.1⟩
end Al
namespace To
open Hf Bt Zr Wg Ch Sq St Tn Bk Sm Ix2 Sd Sk
section
variable {P:Program} {ops:Array Oper} {md:Region.Mode} {w:yC} {S:yC->Prop} {D ms:List Nat} {Q:Exit->Act->yC->Prop} {a:Act} {n L:Nat}
def qPf (L:Nat) (ms:List Nat) (i j k n:Nat):Bool:=(match Kit.zA1 L ms 0 with|[x,y,z]=>Nat.beq x i&&Nat.beq y j&&Nat.beq z k|_=>yI)&&Nat.blt 0 n
theorem y3 (i j k:Nat) (hi:zVy P md ops Q D S ms n L a w i) (o:zVy P md ops Q D S ms n L a w j) (p:zVy P md ops Q D S ms n L a w k) (g:qPf L ms i j k n=yH:=by kernel_rfl):Kit.At_ P md ops Q D S ms n L a w:=by
 unfold qPf at g;rw[qQ1]at g;have q:n=n-1+1:=by have:0<n:=qT2 g.2;omega
 have h:Kit.zA1 L ms 0=[i,j,k]:=by
  have b:=g.1;split at b
  .rename_i x y z e
   rw[qQ1,qQ1]at b;rw[e,qTe b.1.1,qTe b.1.2,qTe b.2]
  .cases b
 refine⟨fun F d c=> ?_⟩;rw[q];refine⟨fun l=> ?_,fun m f=> ?_⟩
 .have b:i∈Region.ready md ops d:=(c.ready F i).2 (by rw[h];simp);rw[l]at b;cases b
 .have b:=(c.ready F m).1 f;rw[h]at b;rcases qP6.1 b with rfl|b
  .exact hi.out F d c f
  .rcases qP6.1 b with rfl|b
   .exact o.out F d c f
   .obtain rfl:=qRe.1 b;exact p.out F d c f
end
structure BQ (lev:Nat) (ps:List T) (n X:Nat) (w0 w:yC) (B D Z:Nat) (u:ByteArray) (room:Int) (d:DV):Prop where
 blk:w.heap[D]? =yA (qp d.cl TDk)
 zz:w.heap[Z]? =yA (qp #[qY u,qX qm 8] TRp)
 dk:Dk lev ps n X w d [free,free]
 ea:d.a=zCt lev ps
 er:d.sh.room=room
 bl:yM B w0 w
 hd:B<=D
 hz:B<=Z
theorem qPo {r:Nat} (h:r<2):([free,free]:List Rr)[r]? =yA free:=by
 obtain rfl|rfl:r=0\/r=1:=za
 .rfl
 .rfl
structure VB (lev:Nat) (ps:List T) (n X:Nat) (w0 w:yC) (y z:Nat) (tx:ByteArray) (cc room:Int) (d:DV):Prop where
 k0:w.heap[y]? =yA (qp #[qY tx,qX qm cc] TRp)
 k1:w.heap[z]? =yA (qp d.cl TDk)
 dk:Dk lev ps n X w d [free,free]
 ea:d.a=zCt lev ps
 er:d.sh.room=room
 bl:yM w0 w0 w
theorem more {f:T} {x a:ByteArray} {m:Nat} (d:x=xB (f.take x.size)) (c:xB ((f.drop x.size).take m)=a):(x++a).size<=kN f/\x++a=xB (f.take (x++a).size):=by
 have e:x++a=xB (f.take (x.size+m)):=by
  rw[List.take_add,Rle.qPk,<-d,c]
 have b:(x++a).size=kN (f.take (x.size+m)):=by rw[e,Rle.zCh]
 rw[qQh]at b;refine⟨za,?_⟩;rw[b,e];congr 1;rcases Nat.le_total (x.size+m) (kN f) with h|h
 .rw[qTj h]
 .rw[Nat.min_eq_right h,qQc h,qS7]
theorem qPh {w:yC} {a:Option yF} {len k:Nat} {zs:List Int} (h:(a=yB/\len=0/\k=0/\zs=[])\/∃x,a=yA x/\len<=k/\k<=maxLen/\kN zs=k/\(∀i,i<kN zs->w.cell? (x.add i)=yA (qX qm (zs.getD i 0)))/\∀n∈zs,(Lit.int qm n).wf=yH):
  (∀i,i<len->∃b c v,a=yA ⟨b,c,yB⟩/\w.cell? ⟨b,c+i,yB⟩=yA (qX qm v)/\ -9223372036854775808<=v/\v<=9223372036854775807)/\len<=9223372036854775807:=by
 rcases h with⟨rfl,rfl,rfl,rfl⟩|⟨x,rfl,p,o,q,d,j⟩
 .exact⟨fun i hi=>absurd hi (Nat.not_lt_zero _),za⟩
 .unfold maxLen at o;refine⟨fun i hi=> ?_,za⟩;have l:=d 0 za;have h:=d i za;obtain⟨b,c,g⟩:=x;have e:g=yB:=by simpa [Addr.add]using World.cell?_spot l
  subst e;rw[Kit.addr_add]at h;have f:i<kN zs:=za
  have m:=bounds_i64 (j zs[i] (qP9 f));rw[qPz,qPu f]at h;exact⟨b,c,zs[i],rfl,h,m⟩
theorem qPp (t:ByteArray) (c:Int) (w:yC):(binOp .eql TRp (.agg #[qY t,qX qm c]) (.agg #[qY t,qX qm c])).run yK w= .ok (qh yH) w:=by
 simp[go_sem]
theorem zLq (s:ByteArray) (a:Option yF) (len dd:Nat) (g:Nat->Int×Int) (lv rm:Int) (b:Option yF) (bn bc:Nat) (z:List Int) (w:yC) (hs:s.size<=maxLen) (h:Kit.zEq qm w a len dd g) (v0: -9223372036854775808<=lv) (v1:lv<=9223372036854775807) (r0: -9223372036854775808<=rm) (r1:rm<=9223372036854775807) (h4:(b=yB/\bn=0/\bc=0/\z=[])\/∃x,b=yA x/\bn<=bc/\bc<=maxLen/\kN z=bc/\(∀i,i<kN z->w.cell? (x.add i)=yA (qX qm (z.getD i 0)))/\∀n∈z,(Lit.int qm n).wf=yH) (hm:Sh.HM w):
  yG yK 3 #[qY s,qZ a len dd,qX qm lv,qX qm rm,qZ b bn bc] w fun e w'=>e=qx (qh yH)/\yM w w w':=by
 obtain⟨k,hk,cz⟩:=qJ0 lv 9 v0 v1 za za (V:=9) rfl;obtain⟨kr,dt,cr⟩:=qJ0 rm 5 r0 r1 za za (V:=5) rfl;obtain⟨B,hB⟩:=zB w.heap.size;obtain⟨b7,ae,cd,bq,H4⟩:=yY (Al.zPf w hm) (fun w' dg=>zY7 s a len dd g w' hs (qJ1 h dg)) cz cr (qPh h4).1;have dp:=(qPh h4).2;have HB:=zH hB;rw[hB]at b7 ae⊢;clear hm hB h h4 hs cz cr;go_enter func3,ntmps3;go_wp2_with fail;(with_reducible refine b7.out.mono ?_);rintro e w1 ⟨rfl,bi⟩;have B1:=yT (yM B w w1/\B<=w1.heap.size) ⟨bi,by have:=bi.size;have:=HB.out;omega⟩;clear bi b7;go_wp2_with fail;(with_reducible refine(ae.out _ B1.out.1).mono ?_);rintro e w2 ⟨u,rfl,hu,az⟩;have B2:=yT (yM B w w2/\B<=w2.heap.size) ⟨B1.out.1.trans (az.mono B1.out.2),by have:=az.size;have:=B1.out.2;omega⟩;obtain⟨n,a1⟩:=qOv (1+k) za za u.data.toList (by simpa using(by omega:u.size<=500));have ah:=fun w'=>zZ5 (1+k) u u.data.toList rfl (by simpa using(by omega:u.size<=500)) za za w';obtain⟨ps,ck⟩:=zB (pcs (40*(1+k)) u.data.toList);rw[ck]at a1 ah;have ac:=a1.A.size;have am:=a1.flat;have hX:kN ps.flatten=u.size:=by rw[am];simp
 have cn:(⟨ps.flatten.toArray⟩:ByteArray)=u:=by rw[am]
 have bp:xB ps.flatten=u:=by rw[am];exact Rle.zJ5 u
 obtain⟨l,bg⟩:=zB (1+k);obtain⟨dc,bo⟩:=zB (1+kr);have d5:(1:Int)+(k:Int)=(l:Int):=za
 have bw:(1:Int)+(kr:Int)=(dc:Int):=za
 rw[bg]at ah a1 ac;have bb:=fun w'=>qM7 l n ps (zCt l ps) a1.A (by rw[hX];omega) w';have ao:=fun(p:Option yF) (c:Nat) (hc:n<=c) w' (hh:Kit.Rd LEn w' p (ents l ps n))=>qPl l n ps a1.P (zCt l ps) ac p c w' hh hc;have ad:=fun w'=>qPe l n u.size ps a1.A a1.P ac dc za za w';have ar:=fun w'=>zZq l n ps (zCt l ps) a1.A (by rw[hX];omega) w';rw[cn]at ar;obtain⟨t,ht⟩:=zB (zCt l ps);obtain⟨sv,br⟩:=zB ((⟨(qK3 (zCt l ps) n (ents l ps n)).toArray⟩:ByteArray));rw[br]at ao ad;rw[ht]at ah bb ao ar;have ad:=fun w'=>ht▸ad w';have ay:=zH (fun(d:DV) (r o m:Nat) (hr:r<2) (ca cb:Int) (hv:Cov ps n u.size o m ca cb) (ho:o<=100000000) (df:m<1048576) (de:d.a=zCt l ps) (w':yC) (a6:Dk l ps n u.size w' d [free,free])=>
  qL4 l n u.size ps a1.P hX a1.A ac d [free,free] r o m ca cb (qPo hr) hv ho df de w' a6)
 obtain⟨cf,cx,cw,d0,cs,ce,af⟩:=yg (fun o m=>qOb l n ps a1.P hX o m) ah ad bb ao ar (yS hX (yS bp ht));obtain⟨X,c6⟩:=zB u.size;have HX:=zH c6;clear az ae ck ac a1 hX am cn bp c6 bg bo ht br ah ad bb ao ar B1;go_wp2_with fail;(with_reducible refine(cd.out _).mono ?_);rintro e w3 ⟨rfl,rfl⟩;go_wp2_with fail;(with_reducible refine(cx.out _).mono ?_);rintro e w4 ⟨rfl,bh⟩;have B4:=yT (yM B w w4/\B<=w4.heap.size) ⟨B2.out.1.trans (bh.mono B2.out.2),by have:=bh.size;have:=B2.out.2;omega⟩;clear bh B2 cx cd d5;go_wp2_with fail;(with_reducible refine(d0.out _).mono ?_);rintro e w5 ⟨pi,ci,rfl,b2,ba⟩;have cg:=qKi b2;have B5:=yT (yM B w w5/\B<=w5.heap.size) ⟨B4.out.1.trans (ba.mono B4.out.2),by have:=ba.size;have:=B4.out.2;omega⟩;have bj:=zH (cs.out pi ci cg w5 b2.rd);clear ba B4 d0 cs b2 cg;go_wp2_with fail;(with_reducible refine bj.out.mono ?_);rintro e w6 ⟨rfl,b3⟩;have B6:=yT (yM B w w6/\B<=w6.heap.size) ⟨B5.out.1.trans (b3.mono B5.out.2),by have:=b3.size;have:=B5.out.2;omega⟩;clear b3 B5 bj;go_wp2_with fail;(with_reducible refine(bq.out _).mono ?_);rintro e w7 ⟨rfl,rfl⟩;go_wp2_with fail;(with_reducible refine(cw.out _).mono ?_);rintro e w8 ⟨d,rfl,a6,e1,e2,e3,e4,ax⟩;obtain⟨D,hD⟩:=zB w8.heap.size;obtain⟨w9,a2⟩:=zB (w8.alloc (qp d.cl TDk));have cv:B<=w8.heap.size:=by have:=ax.size;have:=B6.out.2;omega
 have B9:=yT (yM B w w9/\B<=w9.heap.size/\B<=D) ⟨by rw[<-a2];exact(B6.out.1.trans (ax.mono B6.out.2)).alloc cv _,by rw[<-a2,zA];omega,za⟩;have D9:=yT (w9.heap[D]? =yA (qp d.cl TDk)) (by rw[<-a2,<-hD];exact zAh _ _);have ag:=yT (Dk l ps n u.size w9 d [free,free]/\d.a=zCt l ps/\d.sh.room=dc) ⟨a6.below (by rw[<-a2];exact(yR _ _).alloc (qPq _) _),e1.trans af.out.2.2.symm,by rw[e2]⟩;obtain⟨HD,ai,bf,d9⟩:=yX hD a2 (ce.out w9) bw;clear a6 e1 e2 e3 e4 ax cv hD a2 cw B6 ce bw;unfold DV.v DV.cl;have b1:=ai.out;unfold DV.cl at b1;go_wp2_with fail;rw[HD.out];clear b1;(with_reducible refine bf.out.mono ?_);rintro e b8 ⟨rfl,a9⟩;have aj:=yT (yM B w b8/\B<=b8.heap.size) ⟨B9.out.1.trans (a9.mono B9.out.2.1),by have:=a9.size;have:=B9.out.2.1;omega⟩;have aq:=zH (hkeep D9.out a9);obtain⟨M,hM⟩:=zB (u.size+1);have da:(u.size:Int)+1=(M:Int):=za
 obtain⟨ca,cb,hv⟩:=cf.out 0 M;have ak:=zH (ay.out d 0 0 M za ca cb hv za za ag.out.2.1 b8 (ag.out.1.below a9));rw[show((0:Nat):Int)=0 from rfl,qPr za,show xB ((ps.flatten.drop 0).take M)=u by rw[qR1,qQc (by rw[af.out.1];omega)];exact af.out.2.1]at ak;unfold DV.v DV.cl at ak;have aa:=aq.out;unfold DV.cl at aa;obtain⟨y0,y1,y2,y3,y4,y5,y6⟩:=qH7 aa;clear a9 bf hM hv aa D9 ai;go_wp2_with fail;clear y0 y1 y2 y3 y4 y5 y6 da;(with_reducible refine ak.out.mono ?_);rintro e a5 ⟨d1,rfl,bk,bd,c8,db,a7⟩;have ab:yM a5 a5 (a5.alloc (qp #[qY u,qX qm 8] TRp)):=(yR _ _).alloc (qPq _) _;have N:=hkeep (hkeep aq.out a7) ab;unfold DV.cl at N;obtain⟨Z,hZ⟩:=zB a5.heap.size;obtain⟨b4,a8⟩:=zB ((a5.alloc (qp #[qY u,qX qm 8] TRp)).setCells D 0 [qY d1.a,qZ d1.ip d1.n d1.ic,qX qm d1.sh.room,qX qm d1.sh.clock,qZ d1.sa (kN d1.sh.held) d1.sk,qZ d1.rp d1.m d1.rc,qX qm (d1.dec:Int)]);have h7:=Kit.zDl [qY d1.a,qZ d1.ip d1.n d1.ic,qX qm d1.sh.room,qX qm d1.sh.clock,qZ d1.sa (kN d1.sh.held) d1.sk,qZ d1.rp d1.m d1.rc,qX qm (d1.dec:Int)] (a5.alloc (qp #[qY u,qX qm 8] TRp)) D 0 _ _ _ N;rw[show xO #[qY d.a,qZ d.ip d.n d.ic,qX qm d.sh.room,qX qm d.sh.clock,qZ d.sa (kN d.sh.held) d.sk,qZ d.rp d.m d.rc,qX qm (d.dec:Int)] 0 [qY d1.a,qZ d1.ip d1.n d1.ic,qX qm d1.sh.room,qX qm d1.sh.clock,qZ d1.sa (kN d1.sh.held) d1.sk,qZ d1.rp d1.m d1.rc,qX qm (d1.dec:Int)]= #[qY d1.a,qZ d1.ip d1.n d1.ic,qX qm d1.sh.room,qX qm d1.sh.clock,qZ d1.sa (kN d1.sh.held) d1.sk,qZ d1.rp d1.m d1.rc,qX qm (d1.dec:Int)]by simp[xO],a8]at h7;have L:∀k,k≠D->b4.heap[k]? =(a5.alloc (qp #[qY u,qX qm 8] TRp)).heap[k]? :=fun k hk=>by rw[<-a8];exact Kit.zAo _ _ D 0 k hk
 have cm:Z≠D:=by have:=zAd aq.out;have:=a7.size;omega
 have av:B<=a5.heap.size:=by have:=a7.size;have:=aj.out.2;omega
 have Q0:=yT (BQ l ps n u.size w b4 B D Z u dc d1) ⟨h7,(L Z cm).trans (by rw[<-hZ];exact zAh _ _),(bk.below ab).far N qW qW qW L,c8.trans ag.out.2.1,bd.room.trans ag.out.2.2,by
  rw[<-a8];exact((aj.out.1.trans (a7.mono aj.out.2)).trans (ab.mono av)).trans (xA _ D 0 (yR _ _) B9.out.2.2),B9.out.2.2,za⟩
 obtain⟨y0,y1,y2,y3,y4,y5,y6⟩:=qH7 N;have f0:=qH9 N 0;have f1:=qH9 N 1;have f2:=qH9 N 2;have f3:=qH9 N 3;have f4:=qH9 N 4;have f5:=qH9 N 5;have f6:=qH9 N 6;obtain⟨b5,HZ⟩:=yU a8 hZ;clear bk bd c8 db a7 ab N hZ a8 h7 L cm av ak aq ag aj B9;go_wp2;rw[HZ.out,show(((((((a5.alloc (qp #[qY u,qX qm 8] TRp)).setCell ⟨D,0,yB⟩ (qY d1.a)).setCell ⟨D,1,yB⟩ (qZ d1.ip d1.n d1.ic)).setCell ⟨D,2,yB⟩ (qX qm d1.sh.room)).setCell ⟨D,3,yB⟩ (qX qm d1.sh.clock)).setCell ⟨D,4,yB⟩ (qZ d1.sa (kN d1.sh.held) d1.sk)).setCell ⟨D,5,yB⟩ (qZ d1.rp d1.m d1.rc)).setCell ⟨D,6,yB⟩ (qX qm (d1.dec:Int))=b4 from b5.out];clear y0 y1 y2 y3 y4 y5 y6 f0 f1 f2 f3 f4 f5 f6 b5 HZ;go_loopw [25,26] (fun al iv wr=>∃(i:Nat) (x:ByteArray) (d:DV),i<=bn/\i<=40/\iv=qX qm (i:Int)/\al=qY x/\x.size<=u.size/\yL (x=xB (ps.flatten.take x.size))/\yL (BQ l ps n u.size w wr B D Z u dc d)) (fun _ iv _=>40-(intOf iv).toNat)
 case atStart=>exact⟨0,⟨#[]⟩,d1,qQl _,za,rfl,rfl,qQl _,zH (Rle.qCh []),Q0⟩
 case round=>
  obtain⟨i,x,d,ds,dl,rfl,rfl,dz,bz,hQ⟩:=hrel;obtain⟨Q1,cu⟩:=yU hQ.out bz.out;have aa:=hQ.out.blk;unfold DV.cl at aa;clear hQ bz;by_cases bx:i<bn/\i<40
  .obtain⟨bu,du⟩:=bx;obtain⟨b0,off,v,rfl,h0,l0,u0⟩:=H4.out i bu;obtain⟨m,hm,cp⟩:=qJ0 v 90 l0 u0 za za (V:=90) rfl;obtain⟨CP,V0⟩:=yU cp h0;clear h0 cp;obtain⟨d8,d6,co⟩:=cf.out x.size m;obtain⟨tx,au⟩:=zB (xB ((ps.flatten.drop x.size).take m));obtain⟨cc,cy⟩:∃cc:Int,(if u.size<x.size+m then 8 else 0)=cc:=⟨_,rfl⟩;have b6:=fun(w':yC) (hb:yM wr wr w')=>ay.out d 1 x.size m za d8 d6 co za za Q1.out.ea w' (Q1.out.dk.below hb);rw[au,cy,show((1:Nat):Int)=1 from rfl]at b6;obtain⟨a3,ae,LD,LV⟩:=yX b6 au (fun(W9:yC) (h:yM wr wr W9)=>show(loadVar TDk ⟨D,0,yB⟩).run yK W9= .ok d.v W9 from ld7 (hkeep Q1.out.blk h)) (fun(W9:yC) (h:yM wr wr W9)=>yw (P:=yK) (t:=3) (((Q1.out.bl.trans (h.mono (by have:=zAd Q1.out.blk;have:=Q1.out.hd;omega))).cell (p:=⟨b0,off+i,yB⟩) (by have:=HB.out;have:=qQk V0.out;omega)).trans V0.out) zf zf);have dm:i<bn:=bu;have P0:=yT (yM wr wr wr.drew) (yR _ wr).drew;clear b6 au cy co;go_wp2;go_cut [27,28,29] (fun dh di dj wx=>∃y q d2,dh=qc (yA ⟨y,0,yB⟩)/\di=qc (yA ⟨q,0,yB⟩)/\dj=qX qm 0/\yL (VB l ps n u.size wr wx y q tx cc dc d2))
   case first=>
    refine zS [] (fun W9=>yM wr wr W9) [0,0,2,0,0,24,32,64,133,256,512,512,512,0,0,26623,61439,131071] 18<|zy 0 110 d.v (fun w hS=>zl 39 19 (LD.out w hS)) P0.out<|zu 1 111 (qY x)<|zu 2 112 (qX qm (x.size:Int))<|zu 3 113 (qZ (yA ⟨b0,off,yB⟩) bn bc)<|zu 4 114 (zI i)<|zv 5 115 (qc (yA ⟨b0,off+i,yB⟩)) (fun w=>Kit.zK5 (t:=23) (x:=(.tmp 113)) (y:=(.tmp 114)) (g:=b0) (off:=off) (n:=bn) (c:=bc) (k:=i) rfl zf zf za underlying23 (fun _=>sizeOf3 _) _)<|zy 6 116 (qX qm v) (fun w hS=>zl 3 115 (LV.out w hS)) P0.out<| ?_
    refine y3 7 13 14 ?_ ?_ ?_
    .
     refine yc 117 10 #[qX qm v,qX qm 90] (CP.out _) ?_;rintro e wp ⟨rfl,rfl⟩;refine⟨_,rfl,qy (qy (P0.out)),?_⟩;refine y3 8 13 14 ?_ ?_ ?_
     .
      refine yc 118 15 #[d.v,qX qm 1,qX qm (x.size:Int),qX qm (m:Int)] (a3.out _ P0.out) ?_;rintro e wb ⟨d2,rfl,I,K,Y,a4,j⟩;have f:=zH (P0.out.trans (j.mono P0.out.size));refine⟨_,rfl,qy (qy (f.out)),?_⟩;refine zu 9 109 (qg #[.agg #[qY tx,qX qm cc],d2.v,qX qm 0])<|zu 10 119 (.agg #[qY tx,qX qm cc])<|zu 11 120 d2.v<|zu 12 121 (qX qm 0)<| ?_
      refine y2 13 14 ?_ ?_
      .
       refine yv 27 (qc (yA ⟨wb,0,yB⟩)) (xK (w2:=wb.alloc (qp #[qY ⟨#[]⟩,qX qm 0] TRp)) zf rfl rfl) (qy (qy (f.out.alloc f.out.size (qp #[qY ⟨#[]⟩,qX qm 0] TRp)))) ?_;refine zo 14 28 (qc (yA ⟨(wb.alloc (qp #[qY ⟨#[]⟩,qX qm 0] TRp)).heap.size,0,yB⟩)) (xK (w2:=(wb.alloc (qp #[qY ⟨#[]⟩,qX qm 0] TRp)).alloc (qp ZD TDk)) zf rfl rfl) (qy (qy ((f.out.alloc f.out.size (qp #[qY ⟨#[]⟩,qX qm 0] TRp)).alloc (f.out.alloc f.out.size (qp #[qY ⟨#[]⟩,qX qm 0] TRp)).size (qp ZD TDk)))) ?_;obtain⟨w7,w8,S,O,W,R,H,L,G,a0,F⟩:=qJs (u':=qY tx) (v':=qX qm cc) (a':=qY d2.a) (b':=qZ d2.ip d2.n d2.ic) (c':=qX qm d2.sh.room) (d':=qX qm d2.sh.clock) (e':=qZ d2.sa (kN d2.sh.held) d2.sk) (f':=qZ d2.rp d2.m d2.rc) (g':=qX qm (d2.dec:Int)) (hkeep (zAh wb (qp #[qY ⟨#[]⟩,qX qm 0] TRp)) ((yR _ _).alloc (qPq _) _)) (zAh (wb.alloc (qp #[qY ⟨#[]⟩,qX qm 0] TRp)) (qp ZD TDk)) (by simp[Value.oneCell']) (by simp[Value.oneCell']);have hp:=((f.out.alloc f.out.size (qp #[qY ⟨#[]⟩,qX qm 0] TRp)).alloc (f.out.alloc f.out.size (qp #[qY ⟨#[]⟩,qX qm 0] TRp)).size (qp ZD TDk));have q1:wr.heap.size<=wb.heap.size:=f.out.size;have q2:wr.heap.size<=(wb.alloc (qp #[qY ⟨#[]⟩,qX qm 0] TRp)).heap.size:=(f.out.alloc f.out.size (qp #[qY ⟨#[]⟩,qX qm 0] TRp)).size;have HV:=yT (VB l ps n u.size wr w8 _ _ tx cc dc d2) ⟨W,R,G ((I.below ((yR _ _).alloc (qPq _) _)).below ((yR _ _).alloc (qPq _) _)),Y.trans Q1.out.ea,K.room.trans Q1.out.er,hp.trans (H _ q1 q2)⟩;refine zw 15 yB (xI (t:=44) (x:=(.tmp 27)) (y:=(.tmp 119)) rfl zf zf S) (qy (qy (hp.trans (F _ q1)))) ?_;refine zw 16 yB (xI (t:=39) (x:=(.tmp 28)) (y:=(.tmp 120)) rfl zf zf O) (qy (qy (HV.out.bl))) ?_;refine zu 17 29 (qX qm 0)<|zE<| ?_
       simp only[zP,zI,Act.put,qPx,qPw,qPy];go_wp2;go_meet;exact⟨_,_,d2,rfl,rfl,rfl,HV⟩
      .
       refine yv 28 (qc (yA ⟨wb,0,yB⟩)) (xK (w2:=wb.alloc (qp ZD TDk)) zf rfl rfl) (qy (qy (f.out.alloc f.out.size (qp ZD TDk)))) ?_;refine zo 13 27 (qc (yA ⟨(wb.alloc (qp ZD TDk)).heap.size,0,yB⟩)) (xK (w2:=(wb.alloc (qp ZD TDk)).alloc (qp #[qY ⟨#[]⟩,qX qm 0] TRp)) zf rfl rfl) (qy (qy ((f.out.alloc f.out.size (qp ZD TDk)).alloc (f.out.alloc f.out.size (qp ZD TDk)).size (qp #[qY ⟨#[]⟩,qX qm 0] TRp)))) ?_;obtain⟨w7,w8,S,O,W,R,H,L,G,a0,F⟩:=qJs (u':=qY tx) (v':=qX qm cc) (a':=qY d2.a) (b':=qZ d2.ip d2.n d2.ic) (c':=qX qm d2.sh.room) (d':=qX qm d2.sh.clock) (e':=qZ d2.sa (kN d2.sh.held) d2.sk) (f':=qZ d2.rp d2.m d2.rc) (g':=qX qm (d2.dec:Int)) (zAh (wb.alloc (qp ZD TDk)) (qp #[qY ⟨#[]⟩,qX qm 0] TRp)) (hkeep (zAh wb (qp ZD TDk)) ((yR _ _).alloc (qPq _) _)) (by simp[Value.oneCell']) (by simp[Value.oneCell']);have hp:=((f.out.alloc f.out.size (qp ZD TDk)).alloc (f.out.alloc f.out.size (qp ZD TDk)).size (qp #[qY ⟨#[]⟩,qX qm 0] TRp));have q1:wr.heap.size<=(wb.alloc (qp ZD TDk)).heap.size:=(f.out.alloc f.out.size (qp ZD TDk)).size;have q2:wr.heap.size<=wb.heap.size:=f.out.size;have HV:=yT (VB l ps n u.size wr w8 _ _ tx cc dc d2) ⟨W,R,G ((I.below ((yR _ _).alloc (qPq _) _)).below ((yR _ _).alloc (qPq _) _)),Y.trans Q1.out.ea,K.room.trans Q1.out.er,hp.trans (H _ q1 q2)⟩;refine zw 15 yB (xI (t:=44) (x:=(.tmp 27)) (y:=(.tmp 119)) rfl zf zf S) (qy (qy (hp.trans (F _ q1)))) ?_;refine zw 16 yB (xI (t:=39) (x:=(.tmp 28)) (y:=(.tmp 120)) rfl zf zf O) (qy (qy (HV.out.bl))) ?_;refine zu 17 29 (qX qm 0)<|zE<| ?_
       simp only[zP,zI,Act.put,qPx,qPw,qPy];go_wp2;go_meet;exact⟨_,_,d2,rfl,rfl,rfl,HV⟩
     .
      refine yv 27 (qc (yA ⟨wr.drew.heap.size,0,yB⟩)) (xK (w2:=wr.drew.alloc (qp #[qY ⟨#[]⟩,qX qm 0] TRp)) zf rfl rfl) (qy (qy (P0.out.alloc P0.out.size (qp #[qY ⟨#[]⟩,qX qm 0] TRp)))) ?_;refine y2 8 14 ?_ ?_
      .
       refine yc 118 15 #[d.v,qX qm 1,qX qm (x.size:Int),qX qm (m:Int)] (a3.out _ (P0.out.alloc P0.out.size (qp #[qY ⟨#[]⟩,qX qm 0] TRp))) ?_;rintro e wb ⟨d2,rfl,I,K,Y,a4,j⟩;have f:=zH ((P0.out.alloc P0.out.size (qp #[qY ⟨#[]⟩,qX qm 0] TRp)).trans (j.mono (P0.out.alloc P0.out.size (qp #[qY ⟨#[]⟩,qX qm 0] TRp)).size));refine⟨_,rfl,qy (qy (f.out)),?_⟩;refine zu 9 109 (qg #[.agg #[qY tx,qX qm cc],d2.v,qX qm 0])<|zu 10 119 (.agg #[qY tx,qX qm cc])<|zu 11 120 d2.v<|zu 12 121 (qX qm 0)<| ?_
       refine zo 14 28 (qc (yA ⟨wb,0,yB⟩)) (xK (w2:=wb.alloc (qp ZD TDk)) zf rfl rfl) (qy (qy (f.out.alloc f.out.size (qp ZD TDk)))) ?_;obtain⟨w7,w8,S,O,W,R,H,L,G,a0,F⟩:=qJs (u':=qY tx) (v':=qX qm cc) (a':=qY d2.a) (b':=qZ d2.ip d2.n d2.ic) (c':=qX qm d2.sh.room) (d':=qX qm d2.sh.clock) (e':=qZ d2.sa (kN d2.sh.held) d2.sk) (f':=qZ d2.rp d2.m d2.rc) (g':=qX qm (d2.dec:Int)) (hkeep (hkeep (zAh wr.drew (qp #[qY ⟨#[]⟩,qX qm 0] TRp)) j) ((yR _ _).alloc (qPq _) _)) (zAh wb (qp ZD TDk)) (by simp[Value.oneCell']) (by simp[Value.oneCell']);have hp:=(f.out.alloc f.out.size (qp ZD TDk));have q1:wr.heap.size<=wr.drew.heap.size:=P0.out.size;have q2:wr.heap.size<=wb.heap.size:=f.out.size;have HV:=yT (VB l ps n u.size wr w8 _ _ tx cc dc d2) ⟨W,R,G (I.below ((yR _ _).alloc (qPq _) _)),Y.trans Q1.out.ea,K.room.trans Q1.out.er,hp.trans (H _ q1 q2)⟩;refine zw 15 yB (xI (t:=44) (x:=(.tmp 27)) (y:=(.tmp 119)) rfl zf zf S) (qy (qy (hp.trans (F _ q1)))) ?_;refine zw 16 yB (xI (t:=39) (x:=(.tmp 28)) (y:=(.tmp 120)) rfl zf zf O) (qy (qy (HV.out.bl))) ?_;refine zu 17 29 (qX qm 0)<|zE<| ?_
       simp only[zP,zI,Act.put,qPx,qPw,qPy];go_wp2;go_meet;exact⟨_,_,d2,rfl,rfl,rfl,HV⟩
      .
       refine yv 28 (qc (yA ⟨(wr.drew.alloc (qp #[qY ⟨#[]⟩,qX qm 0] TRp)).heap.size,0,yB⟩)) (xK (w2:=(wr.drew.alloc (qp #[qY ⟨#[]⟩,qX qm 0] TRp)).alloc (qp ZD TDk)) zf rfl rfl) (qy (qy ((P0.out.alloc P0.out.size (qp #[qY ⟨#[]⟩,qX qm 0] TRp)).alloc (P0.out.alloc P0.out.size (qp #[qY ⟨#[]⟩,qX qm 0] TRp)).size (qp ZD TDk)))) ?_;refine zx 8 118 15 #[d.v,qX qm 1,qX qm (x.size:Int),qX qm (m:Int)] (a3.out _ ((P0.out.alloc P0.out.size (qp #[qY ⟨#[]⟩,qX qm 0] TRp)).alloc (P0.out.alloc P0.out.size (qp #[qY ⟨#[]⟩,qX qm 0] TRp)).size (qp ZD TDk))) ?_;rintro e wb ⟨d2,rfl,I,K,Y,a4,j⟩;have f:=zH (((P0.out.alloc P0.out.size (qp #[qY ⟨#[]⟩,qX qm 0] TRp)).alloc (P0.out.alloc P0.out.size (qp #[qY ⟨#[]⟩,qX qm 0] TRp)).size (qp ZD TDk)).trans (j.mono ((P0.out.alloc P0.out.size (qp #[qY ⟨#[]⟩,qX qm 0] TRp)).alloc (P0.out.alloc P0.out.size (qp #[qY ⟨#[]⟩,qX qm 0] TRp)).size (qp ZD TDk)).size));refine⟨_,rfl,qy (qy (f.out)),?_⟩;refine zu 9 109 (qg #[.agg #[qY tx,qX qm cc],d2.v,qX qm 0])<|zu 10 119 (.agg #[qY tx,qX qm cc])<|zu 11 120 d2.v<|zu 12 121 (qX qm 0)<| ?_
       obtain⟨w7,w8,S,O,W,R,H,L,G,a0,F⟩:=qJs (u':=qY tx) (v':=qX qm cc) (a':=qY d2.a) (b':=qZ d2.ip d2.n d2.ic) (c':=qX qm d2.sh.room) (d':=qX qm d2.sh.clock) (e':=qZ d2.sa (kN d2.sh.held) d2.sk) (f':=qZ d2.rp d2.m d2.rc) (g':=qX qm (d2.dec:Int)) (hkeep (hkeep (zAh wr.drew (qp #[qY ⟨#[]⟩,qX qm 0] TRp)) ((yR _ _).alloc (qPq _) _)) j) (hkeep (zAh (wr.drew.alloc (qp #[qY ⟨#[]⟩,qX qm 0] TRp)) (qp ZD TDk)) j) (by simp[Value.oneCell']) (by simp[Value.oneCell']);have hp:=f.out;have q1:wr.heap.size<=wr.drew.heap.size:=P0.out.size;have q2:wr.heap.size<=(wr.drew.alloc (qp #[qY ⟨#[]⟩,qX qm 0] TRp)).heap.size:=(P0.out.alloc P0.out.size (qp #[qY ⟨#[]⟩,qX qm 0] TRp)).size;have HV:=yT (VB l ps n u.size wr w8 _ _ tx cc dc d2) ⟨W,R,G I,Y.trans Q1.out.ea,K.room.trans Q1.out.er,hp.trans (H _ q1 q2)⟩;refine zw 15 yB (xI (t:=44) (x:=(.tmp 27)) (y:=(.tmp 119)) rfl zf zf S) (qy (qy (hp.trans (F _ q1)))) ?_;refine zw 16 yB (xI (t:=39) (x:=(.tmp 28)) (y:=(.tmp 120)) rfl zf zf O) (qy (qy (HV.out.bl))) ?_;refine zu 17 29 (qX qm 0)<|zE<| ?_
       simp only[zP,zI,Act.put,qPx,qPw,qPy];go_wp2;go_meet;exact⟨_,_,d2,rfl,rfl,rfl,HV⟩
     .
      refine yv 28 (qc (yA ⟨wr.drew.heap.size,0,yB⟩)) (xK (w2:=wr.drew.alloc (qp ZD TDk)) zf rfl rfl) (qy (qy (P0.out.alloc P0.out.size (qp ZD TDk)))) ?_;refine y2 8 13 ?_ ?_
      .
       refine yc 118 15 #[d.v,qX qm 1,qX qm (x.size:Int),qX qm (m:Int)] (a3.out _ (P0.out.alloc P0.out.size (qp ZD TDk))) ?_;rintro e wb ⟨d2,rfl,I,K,Y,a4,j⟩;have f:=zH ((P0.out.alloc P0.out.size (qp ZD TDk)).trans (j.mono (P0.out.alloc P0.out.size (qp ZD TDk)).size));refine⟨_,rfl,qy (qy (f.out)),?_⟩;refine zu 9 109 (qg #[.agg #[qY tx,qX qm cc],d2.v,qX qm 0])<|zu 10 119 (.agg #[qY tx,qX qm cc])<|zu 11 120 d2.v<|zu 12 121 (qX qm 0)<| ?_
       refine zo 13 27 (qc (yA ⟨wb,0,yB⟩)) (xK (w2:=wb.alloc (qp #[qY ⟨#[]⟩,qX qm 0] TRp)) zf rfl rfl) (qy (qy (f.out.alloc f.out.size (qp #[qY ⟨#[]⟩,qX qm 0] TRp)))) ?_;obtain⟨w7,w8,S,O,W,R,H,L,G,a0,F⟩:=qJs (u':=qY tx) (v':=qX qm cc) (a':=qY d2.a) (b':=qZ d2.ip d2.n d2.ic) (c':=qX qm d2.sh.room) (d':=qX qm d2.sh.clock) (e':=qZ d2.sa (kN d2.sh.held) d2.sk) (f':=qZ d2.rp d2.m d2.rc) (g':=qX qm (d2.dec:Int)) (zAh wb (qp #[qY ⟨#[]⟩,qX qm 0] TRp)) (hkeep (hkeep (zAh wr.drew (qp ZD TDk)) j) ((yR _ _).alloc (qPq _) _)) (by simp[Value.oneCell']) (by simp[Value.oneCell']);have hp:=(f.out.alloc f.out.size (qp #[qY ⟨#[]⟩,qX qm 0] TRp));have q1:wr.heap.size<=wb.heap.size:=f.out.size;have q2:wr.heap.size<=wr.drew.heap.size:=P0.out.size;have HV:=yT (VB l ps n u.size wr w8 _ _ tx cc dc d2) ⟨W,R,G (I.below ((yR _ _).alloc (qPq _) _)),Y.trans Q1.out.ea,K.room.trans Q1.out.er,hp.trans (H _ q1 q2)⟩;refine zw 15 yB (xI (t:=44) (x:=(.tmp 27)) (y:=(.tmp 119)) rfl zf zf S) (qy (qy (hp.trans (F _ q1)))) ?_;refine zw 16 yB (xI (t:=39) (x:=(.tmp 28)) (y:=(.tmp 120)) rfl zf zf O) (qy (qy (HV.out.bl))) ?_;refine zu 17 29 (qX qm 0)<|zE<| ?_
       simp only[zP,zI,Act.put,qPx,qPw,qPy];go_wp2;go_meet;exact⟨_,_,d2,rfl,rfl,rfl,HV⟩
      .
       refine yv 27 (qc (yA ⟨(wr.drew.alloc (qp ZD TDk)).heap.size,0,yB⟩)) (xK (w2:=(wr.drew.alloc (qp ZD TDk)).alloc (qp #[qY ⟨#[]⟩,qX qm 0] TRp)) zf rfl rfl) (qy (qy ((P0.out.alloc P0.out.size (qp ZD TDk)).alloc (P0.out.alloc P0.out.size (qp ZD TDk)).size (qp #[qY ⟨#[]⟩,qX qm 0] TRp)))) ?_;refine zx 8 118 15 #[d.v,qX qm 1,qX qm (x.size:Int),qX qm (m:Int)] (a3.out _ ((P0.out.alloc P0.out.size (qp ZD TDk)).alloc (P0.out.alloc P0.out.size (qp ZD TDk)).size (qp #[qY ⟨#[]⟩,qX qm 0] TRp))) ?_;rintro e wb ⟨d2,rfl,I,K,Y,a4,j⟩;have f:=zH (((P0.out.alloc P0.out.size (qp ZD TDk)).alloc (P0.out.alloc P0.out.size (qp ZD TDk)).size (qp #[qY ⟨#[]⟩,qX qm 0] TRp)).trans (j.mono ((P0.out.alloc P0.out.size (qp ZD TDk)).alloc (P0.out.alloc P0.out.size (qp ZD TDk)).size (qp #[qY ⟨#[]⟩,qX qm 0] TRp)).size));refine⟨_,rfl,qy (qy (f.out)),?_⟩;refine zu 9 109 (qg #[.agg #[qY tx,qX qm cc],d2.v,qX qm 0])<|zu 10 119 (.agg #[qY tx,qX qm cc])<|zu 11 120 d2.v<|zu 12 121 (qX qm 0)<| ?_
       obtain⟨w7,w8,S,O,W,R,H,L,G,a0,F⟩:=qJs (u':=qY tx) (v':=qX qm cc) (a':=qY d2.a) (b':=qZ d2.ip d2.n d2.ic) (c':=qX qm d2.sh.room) (d':=qX qm d2.sh.clock) (e':=qZ d2.sa (kN d2.sh.held) d2.sk) (f':=qZ d2.rp d2.m d2.rc) (g':=qX qm (d2.dec:Int)) (hkeep (zAh (wr.drew.alloc (qp ZD TDk)) (qp #[qY ⟨#[]⟩,qX qm 0] TRp)) j) (hkeep (hkeep (zAh wr.drew (qp ZD TDk)) ((yR _ _).alloc (qPq _) _)) j) (by simp[Value.oneCell']) (by simp[Value.oneCell']);have hp:=f.out;have q1:wr.heap.size<=(wr.drew.alloc (qp ZD TDk)).heap.size:=(P0.out.alloc P0.out.size (qp ZD TDk)).size;have q2:wr.heap.size<=wr.drew.heap.size:=P0.out.size;have HV:=yT (VB l ps n u.size wr w8 _ _ tx cc dc d2) ⟨W,R,G I,Y.trans Q1.out.ea,K.room.trans Q1.out.er,hp.trans (H _ q1 q2)⟩;refine zw 15 yB (xI (t:=44) (x:=(.tmp 27)) (y:=(.tmp 119)) rfl zf zf S) (qy (qy (hp.trans (F _ q1)))) ?_;refine zw 16 yB (xI (t:=39) (x:=(.tmp 28)) (y:=(.tmp 120)) rfl zf zf O) (qy (qy (HV.out.bl))) ?_;refine zu 17 29 (qX qm 0)<|zE<| ?_
       simp only[zP,zI,Act.put,qPx,qPw,qPy];go_wp2;go_meet;exact⟨_,_,d2,rfl,rfl,rfl,HV⟩
    .
     refine yv 27 (qc (yA ⟨wr.drew.heap.size,0,yB⟩)) (xK (w2:=wr.drew.alloc (qp #[qY ⟨#[]⟩,qX qm 0] TRp)) zf rfl rfl) (qy (qy (P0.out.alloc P0.out.size (qp #[qY ⟨#[]⟩,qX qm 0] TRp)))) ?_;refine y2 7 14 ?_ ?_
     .
      refine yc 117 10 #[qX qm v,qX qm 90] (CP.out _) ?_;rintro e wp ⟨rfl,rfl⟩;refine⟨_,rfl,qy (qy ((P0.out.alloc P0.out.size (qp #[qY ⟨#[]⟩,qX qm 0] TRp)))),?_⟩;refine y2 8 14 ?_ ?_
      .
       refine yc 118 15 #[d.v,qX qm 1,qX qm (x.size:Int),qX qm (m:Int)] (a3.out _ (P0.out.alloc P0.out.size (qp #[qY ⟨#[]⟩,qX qm 0] TRp))) ?_;rintro e wb ⟨d2,rfl,I,K,Y,a4,j⟩;have f:=zH ((P0.out.alloc P0.out.size (qp #[qY ⟨#[]⟩,qX qm 0] TRp)).trans (j.mono (P0.out.alloc P0.out.size (qp #[qY ⟨#[]⟩,qX qm 0] TRp)).size));refine⟨_,rfl,qy (qy (f.out)),?_⟩;refine zu 9 109 (qg #[.agg #[qY tx,qX qm cc],d2.v,qX qm 0])<|zu 10 119 (.agg #[qY tx,qX qm cc])<|zu 11 120 d2.v<|zu 12 121 (qX qm 0)<| ?_
       refine zo 14 28 (qc (yA ⟨wb,0,yB⟩)) (xK (w2:=wb.alloc (qp ZD TDk)) zf rfl rfl) (qy (qy (f.out.alloc f.out.size (qp ZD TDk)))) ?_;obtain⟨w7,w8,S,O,W,R,H,L,G,a0,F⟩:=qJs (u':=qY tx) (v':=qX qm cc) (a':=qY d2.a) (b':=qZ d2.ip d2.n d2.ic) (c':=qX qm d2.sh.room) (d':=qX qm d2.sh.clock) (e':=qZ d2.sa (kN d2.sh.held) d2.sk) (f':=qZ d2.rp d2.m d2.rc) (g':=qX qm (d2.dec:Int)) (hkeep (hkeep (zAh wr.drew (qp #[qY ⟨#[]⟩,qX qm 0] TRp)) j) ((yR _ _).alloc (qPq _) _)) (zAh wb (qp ZD TDk)) (by simp[Value.oneCell']) (by simp[Value.oneCell']);have hp:=(f.out.alloc f.out.size (qp ZD TDk));have q1:wr.heap.size<=wr.drew.heap.size:=P0.out.size;have q2:wr.heap.size<=wb.heap.size:=f.out.size;have HV:=yT (VB l ps n u.size wr w8 _ _ tx cc dc d2) ⟨W,R,G (I.below ((yR _ _).alloc (qPq _) _)),Y.trans Q1.out.ea,K.room.trans Q1.out.er,hp.trans (H _ q1 q2)⟩;refine zw 15 yB (xI (t:=44) (x:=(.tmp 27)) (y:=(.tmp 119)) rfl zf zf S) (qy (qy (hp.trans (F _ q1)))) ?_;refine zw 16 yB (xI (t:=39) (x:=(.tmp 28)) (y:=(.tmp 120)) rfl zf zf O) (qy (qy (HV.out.bl))) ?_;refine zu 17 29 (qX qm 0)<|zE<| ?_
       simp only[zP,zI,Act.put,qPx,qPw,qPy];go_wp2;go_meet;exact⟨_,_,d2,rfl,rfl,rfl,HV⟩
      .
       refine yv 28 (qc (yA ⟨(wr.drew.alloc (qp #[qY ⟨#[]⟩,qX qm 0] TRp)).heap.size,0,yB⟩)) (xK (w2:=(wr.drew.alloc (qp #[qY ⟨#[]⟩,qX qm 0] TRp)).alloc (qp ZD TDk)) zf rfl rfl) (qy (qy ((P0.out.alloc P0.out.size (qp #[qY ⟨#[]⟩,qX qm 0] TRp)).alloc (P0.out.alloc P0.out.size (qp #[qY ⟨#[]⟩,qX qm 0] TRp)).size (qp ZD TDk)))) ?_;refine zx 8 118 15 #[d.v,qX qm 1,qX qm (x.size:Int),qX qm (m:Int)] (a3.out _ ((P0.out.alloc P0.out.size (qp #[qY ⟨#[]⟩,qX qm 0] TRp)).alloc (P0.out.alloc P0.out.size (qp #[qY ⟨#[]⟩,qX qm 0] TRp)).size (qp ZD TDk))) ?_;rintro e wb ⟨d2,rfl,I,K,Y,a4,j⟩;have f:=zH (((P0.out.alloc P0.out.size (qp #[qY ⟨#[]⟩,qX qm 0] TRp)).alloc (P0.out.alloc P0.out.size (qp #[qY ⟨#[]⟩,qX qm 0] TRp)).size (qp ZD TDk)).trans (j.mono ((P0.out.alloc P0.out.size (qp #[qY ⟨#[]⟩,qX qm 0] TRp)).alloc (P0.out.alloc P0.out.size (qp #[qY ⟨#[]⟩,qX qm 0] TRp)).size (qp ZD TDk)).size));refine⟨_,rfl,qy (qy (f.out)),?_⟩;refine zu 9 109 (qg #[.agg #[qY tx,qX qm cc],d2.v,qX qm 0])<|zu 10 119 (.agg #[qY tx,qX qm cc])<|zu 11 120 d2.v<|zu 12 121 (qX qm 0)<| ?_
       obtain⟨w7,w8,S,O,W,R,H,L,G,a0,F⟩:=qJs (u':=qY tx) (v':=qX qm cc) (a':=qY d2.a) (b':=qZ d2.ip d2.n d2.ic) (c':=qX qm d2.sh.room) (d':=qX qm d2.sh.clock) (e':=qZ d2.sa (kN d2.sh.held) d2.sk) (f':=qZ d2.rp d2.m d2.rc) (g':=qX qm (d2.dec:Int)) (hkeep (hkeep (zAh wr.drew (qp #[qY ⟨#[]⟩,qX qm 0] TRp)) ((yR _ _).alloc (qPq _) _)) j) (hkeep (zAh (wr.drew.alloc (qp #[qY ⟨#[]⟩,qX qm 0] TRp)) (qp ZD TDk)) j) (by simp[Value.oneCell']) (by simp[Value.oneCell']);have hp:=f.out;have q1:wr.heap.size<=wr.drew.heap.size:=P0.out.size;have q2:wr.heap.size<=(wr.drew.alloc (qp #[qY ⟨#[]⟩,qX qm 0] TRp)).heap.size:=(P0.out.alloc P0.out.size (qp #[qY ⟨#[]⟩,qX qm 0] TRp)).size;have HV:=yT (VB l ps n u.size wr w8 _ _ tx cc dc d2) ⟨W,R,G I,Y.trans Q1.out.ea,K.room.trans Q1.out.er,hp.trans (H _ q1 q2)⟩;refine zw 15 yB (xI (t:=44) (x:=(.tmp 27)) (y:=(.tmp 119)) rfl zf zf S) (qy (qy (hp.trans (F _ q1)))) ?_;refine zw 16 yB (xI (t:=39) (x:=(.tmp 28)) (y:=(.tmp 120)) rfl zf zf O) (qy (qy (HV.out.bl))) ?_;refine zu 17 29 (qX qm 0)<|zE<| ?_
       simp only[zP,zI,Act.put,qPx,qPw,qPy];go_wp2;go_meet;exact⟨_,_,d2,rfl,rfl,rfl,HV⟩
     .
      refine yv 28 (qc (yA ⟨(wr.drew.alloc (qp #[qY ⟨#[]⟩,qX qm 0] TRp)).heap.size,0,yB⟩)) (xK (w2:=(wr.drew.alloc (qp #[qY ⟨#[]⟩,qX qm 0] TRp)).alloc (qp ZD TDk)) zf rfl rfl) (qy (qy ((P0.out.alloc P0.out.size (qp #[qY ⟨#[]⟩,qX qm 0] TRp)).alloc (P0.out.alloc P0.out.size (qp #[qY ⟨#[]⟩,qX qm 0] TRp)).size (qp ZD TDk)))) ?_;refine zx 7 117 10 #[qX qm v,qX qm 90] (CP.out _) ?_;rintro e wp ⟨rfl,rfl⟩;refine⟨_,rfl,qy (qy (((P0.out.alloc P0.out.size (qp #[qY ⟨#[]⟩,qX qm 0] TRp)).alloc (P0.out.alloc P0.out.size (qp #[qY ⟨#[]⟩,qX qm 0] TRp)).size (qp ZD TDk)))),?_⟩;refine zx 8 118 15 #[d.v,qX qm 1,qX qm (x.size:Int),qX qm (m:Int)] (a3.out _ ((P0.out.alloc P0.out.size (qp #[qY ⟨#[]⟩,qX qm 0] TRp)).alloc (P0.out.alloc P0.out.size (qp #[qY ⟨#[]⟩,qX qm 0] TRp)).size (qp ZD TDk))) ?_;rintro e wb ⟨d2,rfl,I,K,Y,a4,j⟩;have f:=zH (((P0.out.alloc P0.out.size (qp #[qY ⟨#[]⟩,qX qm 0] TRp)).alloc (P0.out.alloc P0.out.size (qp #[qY ⟨#[]⟩,qX qm 0] TRp)).size (qp ZD TDk)).trans (j.mono ((P0.out.alloc P0.out.size (qp #[qY ⟨#[]⟩,qX qm 0] TRp)).alloc (P0.out.alloc P0.out.size (qp #[qY ⟨#[]⟩,qX qm 0] TRp)).size (qp ZD TDk)).size));refine⟨_,rfl,qy (qy (f.out)),?_⟩;refine zu 9 109 (qg #[.agg #[qY tx,qX qm cc],d2.v,qX qm 0])<|zu 10 119 (.agg #[qY tx,qX qm cc])<|zu 11 120 d2.v<|zu 12 121 (qX qm 0)<| ?_
      obtain⟨w7,w8,S,O,W,R,H,L,G,a0,F⟩:=qJs (u':=qY tx) (v':=qX qm cc) (a':=qY d2.a) (b':=qZ d2.ip d2.n d2.ic) (c':=qX qm d2.sh.room) (d':=qX qm d2.sh.clock) (e':=qZ d2.sa (kN d2.sh.held) d2.sk) (f':=qZ d2.rp d2.m d2.rc) (g':=qX qm (d2.dec:Int)) (hkeep (hkeep (zAh wr.drew (qp #[qY ⟨#[]⟩,qX qm 0] TRp)) ((yR _ _).alloc (qPq _) _)) j) (hkeep (zAh (wr.drew.alloc (qp #[qY ⟨#[]⟩,qX qm 0] TRp)) (qp ZD TDk)) j) (by simp[Value.oneCell']) (by simp[Value.oneCell']);have hp:=f.out;have q1:wr.heap.size<=wr.drew.heap.size:=P0.out.size;have q2:wr.heap.size<=(wr.drew.alloc (qp #[qY ⟨#[]⟩,qX qm 0] TRp)).heap.size:=(P0.out.alloc P0.out.size (qp #[qY ⟨#[]⟩,qX qm 0] TRp)).size;have HV:=yT (VB l ps n u.size wr w8 _ _ tx cc dc d2) ⟨W,R,G I,Y.trans Q1.out.ea,K.room.trans Q1.out.er,hp.trans (H _ q1 q2)⟩;refine zw 15 yB (xI (t:=44) (x:=(.tmp 27)) (y:=(.tmp 119)) rfl zf zf S) (qy (qy (hp.trans (F _ q1)))) ?_;refine zw 16 yB (xI (t:=39) (x:=(.tmp 28)) (y:=(.tmp 120)) rfl zf zf O) (qy (qy (HV.out.bl))) ?_;refine zu 17 29 (qX qm 0)<|zE<| ?_
      simp only[zP,zI,Act.put,qPx,qPw,qPy];go_wp2;go_meet;exact⟨_,_,d2,rfl,rfl,rfl,HV⟩
    .
     refine yv 28 (qc (yA ⟨wr.drew.heap.size,0,yB⟩)) (xK (w2:=wr.drew.alloc (qp ZD TDk)) zf rfl rfl) (qy (qy (P0.out.alloc P0.out.size (qp ZD TDk)))) ?_;refine y2 7 13 ?_ ?_
     .
      refine yc 117 10 #[qX qm v,qX qm 90] (CP.out _) ?_;rintro e wp ⟨rfl,rfl⟩;refine⟨_,rfl,qy (qy ((P0.out.alloc P0.out.size (qp ZD TDk)))),?_⟩;refine y2 8 13 ?_ ?_
      .
       refine yc 118 15 #[d.v,qX qm 1,qX qm (x.size:Int),qX qm (m:Int)] (a3.out _ (P0.out.alloc P0.out.size (qp ZD TDk))) ?_;rintro e wb ⟨d2,rfl,I,K,Y,a4,j⟩;have f:=zH ((P0.out.alloc P0.out.size (qp ZD TDk)).trans (j.mono (P0.out.alloc P0.out.size (qp ZD TDk)).size));refine⟨_,rfl,qy (qy (f.out)),?_⟩;refine zu 9 109 (qg #[.agg #[qY tx,qX qm cc],d2.v,qX qm 0])<|zu 10 119 (.agg #[qY tx,qX qm cc])<|zu 11 120 d2.v<|zu 12 121 (qX qm 0)<| ?_
       refine zo 13 27 (qc (yA ⟨wb,0,yB⟩)) (xK (w2:=wb.alloc (qp #[qY ⟨#[]⟩,qX qm 0] TRp)) zf rfl rfl) (qy (qy (f.out.alloc f.out.size (qp #[qY ⟨#[]⟩,qX qm 0] TRp)))) ?_;obtain⟨w7,w8,S,O,W,R,H,L,G,a0,F⟩:=qJs (u':=qY tx) (v':=qX qm cc) (a':=qY d2.a) (b':=qZ d2.ip d2.n d2.ic) (c':=qX qm d2.sh.room) (d':=qX qm d2.sh.clock) (e':=qZ d2.sa (kN d2.sh.held) d2.sk) (f':=qZ d2.rp d2.m d2.rc) (g':=qX qm (d2.dec:Int)) (zAh wb (qp #[qY ⟨#[]⟩,qX qm 0] TRp)) (hkeep (hkeep (zAh wr.drew (qp ZD TDk)) j) ((yR _ _).alloc (qPq _) _)) (by simp[Value.oneCell']) (by simp[Value.oneCell']);have hp:=(f.out.alloc f.out.size (qp #[qY ⟨#[]⟩,qX qm 0] TRp));have q1:wr.heap.size<=wb.heap.size:=f.out.size;have q2:wr.heap.size<=wr.drew.heap.size:=P0.out.size;have HV:=yT (VB l ps n u.size wr w8 _ _ tx cc dc d2) ⟨W,R,G (I.below ((yR _ _).alloc (qPq _) _)),Y.trans Q1.out.ea,K.room.trans Q1.out.er,hp.trans (H _ q1 q2)⟩;refine zw 15 yB (xI (t:=44) (x:=(.tmp 27)) (y:=(.tmp 119)) rfl zf zf S) (qy (qy (hp.trans (F _ q1)))) ?_;refine zw 16 yB (xI (t:=39) (x:=(.tmp 28)) (y:=(.tmp 120)) rfl zf zf O) (qy (qy (HV.out.bl))) ?_;refine zu 17 29 (qX qm 0)<|zE<| ?_
       simp only[zP,zI,Act.put,qPx,qPw,qPy];go_wp2;go_meet;exact⟨_,_,d2,rfl,rfl,rfl,HV⟩
      .
       refine yv 27 (qc (yA ⟨(wr.drew.alloc (qp ZD TDk)).heap.size,0,yB⟩)) (xK (w2:=(wr.drew.alloc (qp ZD TDk)).alloc (qp #[qY ⟨#[]⟩,qX qm 0] TRp)) zf rfl rfl) (qy (qy ((P0.out.alloc P0.out.size (qp ZD TDk)).alloc (P0.out.alloc P0.out.size (qp ZD TDk)).size (qp #[qY ⟨#[]⟩,qX qm 0] TRp)))) ?_;refine zx 8 118 15 #[d.v,qX qm 1,qX qm (x.size:Int),qX qm (m:Int)] (a3.out _ ((P0.out.alloc P0.out.size (qp ZD TDk)).alloc (P0.out.alloc P0.out.size (qp ZD TDk)).size (qp #[qY ⟨#[]⟩,qX qm 0] TRp))) ?_;rintro e wb ⟨d2,rfl,I,K,Y,a4,j⟩;have f:=zH (((P0.out.alloc P0.out.size (qp ZD TDk)).alloc (P0.out.alloc P0.out.size (qp ZD TDk)).size (qp #[qY ⟨#[]⟩,qX qm 0] TRp)).trans (j.mono ((P0.out.alloc P0.out.size (qp ZD TDk)).alloc (P0.out.alloc P0.out.size (qp ZD TDk)).size (qp #[qY ⟨#[]⟩,qX qm 0] TRp)).size));refine⟨_,rfl,qy (qy (f.out)),?_⟩;refine zu 9 109 (qg #[.agg #[qY tx,qX qm cc],d2.v,qX qm 0])<|zu 10 119 (.agg #[qY tx,qX qm cc])<|zu 11 120 d2.v<|zu 12 121 (qX qm 0)<| ?_
       obtain⟨w7,w8,S,O,W,R,H,L,G,a0,F⟩:=qJs (u':=qY tx) (v':=qX qm cc) (a':=qY d2.a) (b':=qZ d2.ip d2.n d2.ic) (c':=qX qm d2.sh.room) (d':=qX qm d2.sh.clock) (e':=qZ d2.sa (kN d2.sh.held) d2.sk) (f':=qZ d2.rp d2.m d2.rc) (g':=qX qm (d2.dec:Int)) (hkeep (zAh (wr.drew.alloc (qp ZD TDk)) (qp #[qY ⟨#[]⟩,qX qm 0] TRp)) j) (hkeep (hkeep (zAh wr.drew (qp ZD TDk)) ((yR _ _).alloc (qPq _) _)) j) (by simp[Value.oneCell']) (by simp[Value.oneCell']);have hp:=f.out;have q1:wr.heap.size<=(wr.drew.alloc (qp ZD TDk)).heap.size:=(P0.out.alloc P0.out.size (qp ZD TDk)).size;have q2:wr.heap.size<=wr.drew.heap.size:=P0.out.size;have HV:=yT (VB l ps n u.size wr w8 _ _ tx cc dc d2) ⟨W,R,G I,Y.trans Q1.out.ea,K.room.trans Q1.out.er,hp.trans (H _ q1 q2)⟩;refine zw 15 yB (xI (t:=44) (x:=(.tmp 27)) (y:=(.tmp 119)) rfl zf zf S) (qy (qy (hp.trans (F _ q1)))) ?_;refine zw 16 yB (xI (t:=39) (x:=(.tmp 28)) (y:=(.tmp 120)) rfl zf zf O) (qy (qy (HV.out.bl))) ?_;refine zu 17 29 (qX qm 0)<|zE<| ?_
       simp only[zP,zI,Act.put,qPx,qPw,qPy];go_wp2;go_meet;exact⟨_,_,d2,rfl,rfl,rfl,HV⟩
     .
      refine yv 27 (qc (yA ⟨(wr.drew.alloc (qp ZD TDk)).heap.size,0,yB⟩)) (xK (w2:=(wr.drew.alloc (qp ZD TDk)).alloc (qp #[qY ⟨#[]⟩,qX qm 0] TRp)) zf rfl rfl) (qy (qy ((P0.out.alloc P0.out.size (qp ZD TDk)).alloc (P0.out.alloc P0.out.size (qp ZD TDk)).size (qp #[qY ⟨#[]⟩,qX qm 0] TRp)))) ?_;refine zx 7 117 10 #[qX qm v,qX qm 90] (CP.out _) ?_;rintro e wp ⟨rfl,rfl⟩;refine⟨_,rfl,qy (qy (((P0.out.alloc P0.out.size (qp ZD TDk)).alloc (P0.out.alloc P0.out.size (qp ZD TDk)).size (qp #[qY ⟨#[]⟩,qX qm 0] TRp)))),?_⟩;refine zx 8 118 15 #[d.v,qX qm 1,qX qm (x.size:Int),qX qm (m:Int)] (a3.out _ ((P0.out.alloc P0.out.size (qp ZD TDk)).alloc (P0.out.alloc P0.out.size (qp ZD TDk)).size (qp #[qY ⟨#[]⟩,qX qm 0] TRp))) ?_;rintro e wb ⟨d2,rfl,I,K,Y,a4,j⟩;have f:=zH (((P0.out.alloc P0.out.size (qp ZD TDk)).alloc (P0.out.alloc P0.out.size (qp ZD TDk)).size (qp #[qY ⟨#[]⟩,qX qm 0] TRp)).trans (j.mono ((P0.out.alloc P0.out.size (qp ZD TDk)).alloc (P0.out.alloc P0.out.size (qp ZD TDk)).size (qp #[qY ⟨#[]⟩,qX qm 0] TRp)).size));refine⟨_,rfl,qy (qy (f.out)),?_⟩;refine zu 9 109 (qg #[.agg #[qY tx,qX qm cc],d2.v,qX qm 0])<|zu 10 119 (.agg #[qY tx,qX qm cc])<|zu 11 120 d2.v<|zu 12 121 (qX qm 0)<| ?_
      obtain⟨w7,w8,S,O,W,R,H,L,G,a0,F⟩:=qJs (u':=qY tx) (v':=qX qm cc) (a':=qY d2.a) (b':=qZ d2.ip d2.n d2.ic) (c':=qX qm d2.sh.room) (d':=qX qm d2.sh.clock) (e':=qZ d2.sa (kN d2.sh.held) d2.sk) (f':=qZ d2.rp d2.m d2.rc) (g':=qX qm (d2.dec:Int)) (hkeep (zAh (wr.drew.alloc (qp ZD TDk)) (qp #[qY ⟨#[]⟩,qX qm 0] TRp)) j) (hkeep (hkeep (zAh wr.drew (qp ZD TDk)) ((yR _ _).alloc (qPq _) _)) j) (by simp[Value.oneCell']) (by simp[Value.oneCell']);have hp:=f.out;have q1:wr.heap.size<=(wr.drew.alloc (qp ZD TDk)).heap.size:=(P0.out.alloc P0.out.size (qp ZD TDk)).size;have q2:wr.heap.size<=wr.drew.heap.size:=P0.out.size;have HV:=yT (VB l ps n u.size wr w8 _ _ tx cc dc d2) ⟨W,R,G I,Y.trans Q1.out.ea,K.room.trans Q1.out.er,hp.trans (H _ q1 q2)⟩;refine zw 15 yB (xI (t:=44) (x:=(.tmp 27)) (y:=(.tmp 119)) rfl zf zf S) (qy (qy (hp.trans (F _ q1)))) ?_;refine zw 16 yB (xI (t:=39) (x:=(.tmp 28)) (y:=(.tmp 120)) rfl zf zf O) (qy (qy (HV.out.bl))) ?_;refine zu 17 29 (qX qm 0)<|zE<| ?_
      simp only[zP,zI,Act.put,qPx,qPw,qPy];go_wp2;go_meet;exact⟨_,_,d2,rfl,rfl,rfl,HV⟩
   case rest=>
    obtain⟨y,q,d2,rfl,rfl,rfl,hV⟩:=hcut;have ap:=hV.out.k1;unfold DV.cl at ap;have LH:=zH (yw (P:=yK) (t:=34) (w:=wc.drew) (show wc.drew.cell? ⟨q,4,yB⟩=yA (qZ d2.sa (kN d2.sh.held) d2.sk)from(qH7 ap).2.2.2.2.1) zf zf);have d4:=yT (IntKind.i64.wrap ((1:Int)+(kr:Int))=(dc:Int)) (by rw[qQa _ ⟨za,za⟩];exact d9.out);have d7:=yT (yJ ((dc:Int)<(kN d2.sh.held:Int))=yI) (by have h1:=hV.out.dk.rgt.2.2.2.2.1;have h2:=hV.out.er;exact qP1 za)
    have an:=hV.out.bl;have a6:=hkeep Q1.out.blk an;have N:=a6;unfold DV.cl at N;obtain⟨w9,a2⟩:=zB (wc.setCells D 0 [qY d2.a,qZ d2.ip d2.n d2.ic,qX qm d2.sh.room,qX qm d2.sh.clock,qZ d2.sa (kN d2.sh.held) d2.sk,qZ d2.rp d2.m d2.rc,qX qm (d2.dec:Int)]);have L:∀k,k≠D->w9.heap[k]? =wc.heap[k]? :=fun k hk=>by rw[<-a2];exact Kit.zAo _ wc D 0 k hk
    have h7:=Kit.zDl [qY d2.a,qZ d2.ip d2.n d2.ic,qX qm d2.sh.room,qX qm d2.sh.clock,qZ d2.sa (kN d2.sh.held) d2.sk,qZ d2.rp d2.m d2.rc,qX qm (d2.dec:Int)] wc D 0 _ _ _ N;rw[show xO #[qY d.a,qZ d.ip d.n d.ic,qX qm d.sh.room,qX qm d.sh.clock,qZ d.sa (kN d.sh.held) d.sk,qZ d.rp d.m d.rc,qX qm (d.dec:Int)] 0 [qY d2.a,qZ d2.ip d2.n d2.ic,qX qm d2.sh.room,qX qm d2.sh.clock,qZ d2.sa (kN d2.sh.held) d2.sk,qZ d2.rp d2.m d2.rc,qX qm (d2.dec:Int)]= #[qY d2.a,qZ d2.ip d2.n d2.ic,qX qm d2.sh.room,qX qm d2.sh.clock,qZ d2.sa (kN d2.sh.held) d2.sk,qZ d2.rp d2.m d2.rc,qX qm (d2.dec:Int)]by simp[xO],a2]at h7;have cj:Z≠D:=fun e=>by
     have h5:=Q1.out.zz;rw[e,Q1.out.blk]at h5;exact absurd (qQ6 (qPv h5)).2.1 qW
    have ct:B<=wr.heap.size:=by have:=zAd Q1.out.blk;have:=Q1.out.hd;omega
    have QN:=yT (BQ l ps n u.size w w9.drew B D Z u dc d2) ⟨h7,(L Z cj).trans (hkeep Q1.out.zz an),(hV.out.dk.far N qW qW qW L).below (yR _ _).drew,hV.out.ea,hV.out.er,by
     rw[<-a2];exact((Q1.out.bl.trans (an.mono ct)).trans (xA _ D 0 (yR _ _) Q1.out.hd)).drew,Q1.out.hd,Q1.out.hz⟩
    obtain⟨b9,c7⟩:=more cu.out ae.out;rw[af.out.1]at b9;have dv:x.size+tx.size<=1000:=by have:=ByteArray.size_append (a:=x) (b:=tx);omega
    have dw:tx.size<=1000:=za
    have dx:x.size<=1000:=za
    have HM:=zH (yS b9 c7);obtain⟨p0,p1,p2,p3,p4,p5,p6⟩:=qH7 ap;obtain⟨y0,y1,y2,y3,y4,y5,y6⟩:=qH7 N;have f0:=qH9 N 0;have f1:=qH9 N 1;have f2:=qH9 N 2;have f3:=qH9 N 3;have f4:=qH9 N 4;have f5:=qH9 N 5;have f6:=qH9 N 6;have cq:¬(y=D):=fun e=>by
     have h5:=hV.out.k0;rw[e,a6]at h5;exact absurd (qQ6 (qPv h5)).2.1 qW
    have c0:=(qIa hV.out.k0).1;have hne:¬(D=y):=fun e=>cq e.symm;have ai:=zH a2;clear ap an a6 N a2 L h7 cj ct b9 c7 hV LD LV a3 P0;go_wp2;refine zS [] (fun _=>True) [0,1,2,4,12,20,36,4,132,260,580,1028] 12<|zp [0,1,2,3,4,5,6,7,8,9,10,11]<|zk 122 (qX qm 0)<|zk 123 (qh yI)<|zk 124 (qh yI)<|zk 125 (zP q 2)<|zk 126 (zP q 4)<|zt 127 (qZ d2.sa (kN d2.sh.held) d2.sk) (zl 34 126 (LH.out))<|zk 128 (qX qm (kN d2.sh.held:Int))<|zk 129 (qX qm rm)<| ?_
    refine Kit.zZ2 (yA 130) (10) (#[qX qm rm,qX qm 5]) (qX qm (kr:Int)) rfl rfl zf zf (bq.out _) ?_;refine zt 131 (zI dc) (Kit.qCv (x:= .const (qX qm 1)) (y:= .tmp 130) (t:=3) (u:=3) zf zf zf d4.out _)<|zt 132 (qh yI) (qOh (x:= .tmp 128) (y:= .tmp 131) (t:=3) (u:=3) zf zf zf d7.out _)<|zk 133 (qh yI)<|zn<|zE<| ?_
    simp only[zP,zI,Act.put,qPx,qPw,qPy];go_wp2;rw[show(((((((wc).setCell ⟨D,0,yB⟩ (qY d2.a)).setCell ⟨D,1,yB⟩ (qZ d2.ip d2.n d2.ic)).setCell ⟨D,2,yB⟩ (qX qm d2.sh.room)).setCell ⟨D,3,yB⟩ (qX qm d2.sh.clock)).setCell ⟨D,4,yB⟩ (qZ d2.sa (kN d2.sh.held) d2.sk)).setCell ⟨D,5,yB⟩ (qZ d2.rp d2.m d2.rc)).setCell ⟨D,6,yB⟩ (qX qm (d2.dec:Int))=w9 from ai.out];clear p0 p1 p2 p3 p4 p5 p6 y0 y1 y2 y3 y4 y5 y6 f0 f1 f2 f3 f4 f5 f6 c0 hne cq;go_roundw
    case rel=>exact⟨i+1,x++tx,d2,za,za,by go_num,rfl,HM.out.1,zH HM.out.2,QN⟩
    case measure=>exact z8
  .obtain⟨z0,z1,_,_⟩:=qIa Q1.out.zz;have dq:=qPp u 8;have dy:u.extract 0 x.size=x:=by
    have h1:=af.out.2.1;rw[<-h1,Rle.zNx];exact cu.out.symm
   have d3:=zH Q1.out.bl;have hg:¬i<bn\/(i<bn/\¬i<40):=za
   clear aa bx Q1 ay;rcases hg with hg|⟨hg,dr⟩
   all_goals
    go_wp2;go_ret;exact⟨rfl,d3.out⟩
end To
end Go.Proofs.YtppnakkaljbmbaaGreatDoor
