/- Steps of a proof; no condition beyond what each states. -/
import Derived.Test.YtppnakkaljbmbaaGreatDoorZX00
import Derived.Test.YtppnakkaljbmbaaGreatDoorZX05
set_option linter.unusedVariables false
set_option linter.unusedSimpArgs false
set_option maxRecDepth 100000
set_option maxHeartbeats 8000000
open List renaming length->kG
open Go.Proofs.YtppnakkaljbmbaaGreatDoor.Kit renaming Src->yZ,Own->yg,zAe->xE
open Go.RowKit
open Go.Proofs.Tryz
open Go.Value renaming int->qV,string->qW,slice->qX,tuple->qZ
open Go.IntKind renaming i64->qj,u8->ql
open Go.Obj renaming cells->qm
open Go.Ending renaming returned->qp
open Option renaming some->qw,none->qx
open Go renaming World->qy,Value->qz,Addr->yB,Calls->yC
open Bool renaming true->yD,false->yE
open Decidable renaming decide->yF
open Go.Proofs.Tryz renaming prog->yG
open Go.RowKit renaming Hid->yH,Below->yI
open List renaming range->yK,replicate->yL
open Go.RowKit.Below renaming refl->yN
namespace Go.Proofs.YtppnakkaljbmbaaGreatDoor
namespace Zr
open Front Bt
def D (m:List Nat):List Nat:=dec (kG m) m
theorem qCi:D []=[]:=rfl
theorem qGr (r:List Nat) (h:r≠[]):D r=yL (number (r.take (row 1 r))) 0++match r.drop (row 1 r)with
  |[]=>[]
  |x::t=>(x-1)::D t:=by
 unfold D;cases hr:kG r with
 |zero=>exact absurd (qQz hr) h
 |succ f=>
  rw[dec,qPt h];congr 1;cases hd:r.drop (row 1 r)with
  |nil=>rfl
  |cons x t=>
   simp only;have a:=qPs List.length hd;rw[qQn,qP3]at a;rw[zRo (kG t) f t (qPq _) za]
theorem zQd (t:Nat):∀(l:List Nat) (x:Nat) (r:List Nat),l.drop (row t l)=x::r->t<x
 |[],x,r,h=>by simp[row]at h
 |y::l,x,r,h=>by
  unfold row at h;split at h
  ·rw[List.drop_succ_cons]at h;exact zQd t l x r h
  ·rw[qR3]at h;injection h with h1 _
   omega
theorem zQc (t:Nat):∀(l:List Nat),∀x∈l.take (row t l),x<=t
 |[],x,h=>by simp at h
 |y::l,x,h=>by
  unfold row at h;split at h
  ·rw[qSk]at h;rcases qP7.1 h with rfl|h
   ·assumption
   ·exact zQc t l x h
  ·simp at h
theorem Src.take {w:qy} {a:Option yB} {l:List Nat} (h:yZ w a (l.map ival)) (k:Nat):yZ w a ((l.take k).map ival):=by
 rw[qTx];exact Kit.Src.take h k
theorem zOr (w:qy) (n:Nat) (o:n<=1000000):∃w',(Instr.makeSlice 23 (qV qj (n:Int)) (qV qj (n:Int))).run yG w= .ok (qX (qw ⟨w.heap.size,0,qx⟩) n n) w'/\
  yg w' w.heap.size 3 (qw ⟨w.heap.size,0,qx⟩) n n ((yL n 0).map ival)/\yI w.heap.size w w':=by
 obtain⟨z,l,m⟩:=zNn.row;obtain⟨i,hi,a,d,b⟩:=qR0 l;have c:(Value.int qj 0)=z:=by
  have e:(prog.info? 3).map (fun i=>i.zero)=qw (qw (qV qj 0)):=zf
  rw[hi]at e;simp only[qRs,qTy]at e;rw[a]at e;exact(qPv e).symm
 obtain⟨w',j,f,g⟩:=run_makeSlice_full (P:=yG) (w:=w) w.heap.size 23 3 i z 1 zNn.ut hi a d qj qj n za (by rw[b];omega) (by unfold maxLen;omega) (qPq _);refine⟨w',j,?_,(yN _ _).grown g (qPq _) (fun k h=>by cases h)⟩;subst c;rw[Nat.mul_one,show(Value.int qj 0).cells= #[qV qj 0]from rfl,toList_madeCells_one]at f;rw[List.map_replicate];exact f
theorem zFi (m:List Nat) (most:Nat) (a:Option yB) (n c:Nat) (w:qy) (hn:kG m=n) (bu:n<=100000) (hs:yZ w a (m.map ival)) (g:∀p,a=qw p->p.block<w.heap.size) (had:Ad a n c) (hl:∀x∈m,x<=100000)
  (bg:kG (D m)<=most) (bi:most<=100000):
  yC yG 37 #[qX a n c,qV qj (most:Int)] w fun e w'=>∃a' c',e=qp (qZ #[qX a' (kG (D m)) c',qV qj 0])/\yg w' w.heap.size 3 a' (kG (D m)) c' ((D m).map ival)/\yI w.heap.size w w':=by
 have br:∀(fn:Fn) (first bh:Array qz) (w:qy),(Instr.makeFunc fn first bh).run yG w= .ok (.func fn first bh) w:=fun _ _ _ _=>rfl;obtain⟨B,hB⟩:=zB w.heap.size;obtain⟨W,hW⟩:=zB (w.alloc (qm #[qX qx 0 0] 158));have am:yI B w W:=by rw[<-hW,<-hB];exact(yN _ _).alloc (qPq _) _
 have hX:W.heap[B]? =qw (qm #[qX qx 0 0] 158):=by
  rw[<-hW,<-hB];show(w.heap.push _)[w.heap.size]? =_;simp
 obtain⟨an,ao,ah,HS,HL,HN,b2⟩:=yV (Ls.mk (D:=B) (l:=[]) hX (Kit.Own.start _ _ _) (qPq _)) am (zPc m a n c w hn za hs (fun x hx=>by have:=hl x hx;omega)) hs hl hn had;rw[hB]at g;have af:=zH g;obtain⟨T,Z⟩:=zB (D m);rw[Z]at bg⊢;obtain⟨b3,b8⟩:=yQ bg Z;clear am hX hs hl hn had Z bg g;rw[hB];go_enter func37,ntmps37;go_wp2_with fail;(with_reducible refine ah.out.mono ?_);rintro e w2 ⟨rfl,rfl⟩;go_wp2;clear ah hW;go_loopw [0] (fun v wr=>∃(r d:List Nat) (a2:Option yB) (n2 c2 np:Nat) (p:Option yB) (cp:Nat),v=qX a2 n2 c2/\n2<=n/\kG r=n2/\yH (∀x∈r,x<=100000)/\yH (yZ w2 a2 (r.map ival))/\yH (∀p,a2=qw p->p.block<B)/\yH (Ad a2 n2 c2)/\yH (Ls wr B B p np cp d)/\yH (yI B w2 wr)/\yH (T=d++D r)) (fun v _=>lenOf v)
 case atStart=>exact⟨m,[],a,n,c,0,qx,0,rfl,qPq _,HN.out,HL,HS,af,b2,an,ao,zH (by rw[b8.out];rfl)⟩
 case round=>
  clear an ao HS HL HN b2 af;obtain⟨r,d,a2,n2,c2,np,p,cp,rfl,bj,i,S,I,g,had,G,K,hT⟩:=hrel;rcases qQy n2 with hz|hz
  ·subst hz;have bb:r=[]:=qQz i;subst bb;obtain⟨x0,f0⟩:=zEb G.out.blk;have f:T=d:=by rw[hT.out,qCi,qQ3]
   have ac:kG T=np:=by rw[f];exact G.out.len
   have bx:¬(most:Int)<(np:Int):=by have:=b3.out;omega
   obtain⟨k,aj⟩:=yQ f ac;clear f ac;go_wp2;go_ret2;refine⟨p,cp,by rw[aj.out];rfl,?_,K.out⟩;rw[aj.out,k.out];exact G.out.own
  ·have hne:r≠[]:=by rintro rfl;simp at i;omega
   have L:=qGr r hne;have z:=zH (zJm r 1 a2 n2 c2 wr i za (I.out.below (by rw[hB];exact K.out)) (fun x hx=>by have:=S.out x hx;omega) za);have ad:=zQe 1 r;have a0:=zQc 1 r;have a6:=zQd 1 r;obtain⟨q,hq⟩:=zB (row 1 r);rw[hq]at z ad L a0 a6;rw[show((1:Nat):Int)=1 from rfl]at z;rw[i]at ad;obtain⟨N,hN⟩:=zB (number (r.take q));rw[hN]at L;have ab:T=(d++yL N 0)++(match r.drop q with|[]=>[]|x::t=>(x-1)::D t):=by rw[hT.out,L];simp
   have bn:np+N<=most:=by
    have h1:=b3.out;have h2:=G.out.len;rw[ab]at h1;simp only[qPx,qTz]at h1;omega
   obtain⟨az,ba,bf,F,ax⟩:=yT ab a0 a6 i hN;clear L hq ab a0 a6 hN i hne;rcases had.out with⟨rfl,rfl,rfl⟩|⟨bw,bp,b,j,rfl⟩
   ·omega
   go_wp2_with fail;(with_reducible refine z.out.mono ?_);clear z;rintro e w3 ⟨rfl,Y⟩;have s:=K.out.trans (Y.mono (by have:=K.out.size;omega));have z:=zH (zUz (r.take q) (qw ⟨b,j,qx⟩) q c2 w3 (by rw[qQh,F.out];omega) za (Src.take (I.out.below (by rw[hB];exact s)) q) (fun p hp=>by have h1:=g.out p hp;have h2:=s.size;omega) ba.out (by rw[ax.out];omega));rw[ax.out]at z;obtain⟨a3,ay⟩:=yQ s (G.out.below Y rfl);clear Y s;go_wp2_with fail;(with_reducible refine z.out.mono ?_);clear z;rintro e w4 ⟨rfl,aa⟩;obtain⟨a5,O⟩:=yQ (a3.out.trans (aa.mono (by have:=a3.out.size;omega))) (ay.out.below aa rfl);clear aa a3 ay;obtain⟨x0,f0⟩:=zEb O.out.blk;have j1:max (most:Int) 0=(most:Int):=za
   have j2:IntKind.i64.wrap ((most:Int)-(np:Int))=(most:Int)-(np:Int):=qQb _ ⟨za,za⟩;have j3:decide ((most:Int)-(np:Int)<(N:Int))=yE:=qP1 za;obtain⟨w5,b7,ae,a7⟩:=zOr w4 N za;obtain⟨z,b1⟩:=yQ (zJx B B p np cp d (qw ⟨w4.heap.size,0,qx⟩) N N (yL N 0) w5 (O.out.below a7 rfl) ae.src zm (fun h=>by cases h) za) (a5.out.trans (a7.mono (by have:=a5.out.size;omega)));clear ae a7;go_wp2_with fail;(with_reducible refine z.out.mono ?_);clear z x0 f0 b7 j1 j2 j3;rintro e w6 ⟨rfl,p6,ag,a1,aq⟩;obtain⟨R,H⟩:=yQ a1 (b1.out.trans aq);clear a1 aq b1 a5 O;by_cases b6:q<n2
   ·have u:q<kG r:=by rw[F.out];exact b6
    obtain⟨x,hx⟩:=zB (r[q]);have o:r.drop q=x::r.drop (q+1):=by rw[qSa u,hx]
    have bd:=bf.out x _ o;have f:T=((d++yL N 0)++[x-1])++D (r.drop (q+1)):=by rw[az.out,o];simp
    obtain⟨b',bk,P,e0⟩:=(I.out.below (w':=w6) (by rw[hB];exact H.out)) q (ival x) (by rw[qP2,qPu u,hx];rfl);injection P with P
    injection P with hb1 hb2 _
    subst hb1 hb2;have c6:x<=100000:=by rw[<-hx];exact S.out _ (qQ u)
    have k:=zH f;have b5:=R.out.len;have ar:np+N+1<=1000000:=za
    have ak:=I.out;have b4:=zH (Src.drop ak (q+1));have a4:=yP (∀x∈r.drop (q+1),x<=100000) fun y hy=>S.out y (List.mem_of_mem_drop hy);have a8:=yP (kG (r.drop (q+1))=n2-q-1) (by rw[qQn,F.out];omega);have X:((x-1:Nat):Int)=(x:Int)-1:=za
    obtain⟨W7,V⟩:=zB (w6.alloc (qm #[qV qj ((x:Int)-1)] 3));have a9:yI w6.heap.size w6 W7:=by rw[<-V];exact(yN _ _).alloc (qPq _) _
    have av:yZ W7 (qw ⟨w6.heap.size,0,qx⟩) ([x-1].map ival):=by
     rw[<-V];have:=Kit.zAs w6 (ival (x-1)) 3;unfold ival at this;rw[X]at this;show yZ _ _ [ival (x-1)];unfold ival;rw[X];exact this
    obtain⟨z,bc⟩:=yQ (zJx B B p6 (np+N) ag (d++yL N 0) (qw ⟨w6.heap.size,0,qx⟩) 1 1 [x-1] W7 (R.out.below a9 rfl) av rfl (fun h=>by cases h) ar) (H.out.trans (a9.mono (by have:=H.out.size;omega)));have bz:IntKind.i64.wrap ((x:Int)-1)=(x:Int)-1:=by rw[qQb _ ⟨za,za⟩]
    have b9:¬c2=q:=za
    clear hx o f b5 ar ak a9 av u X bd;go_wp2_with fail;clear V e0;(with_reducible refine z.out.mono ?_);rintro e w8 ⟨rfl,p8,b0,M,ai⟩;obtain⟨au,ap⟩:=yQ M (bc.out.trans ai);clear M ai z;have bq:((n2-q-1:Nat):Int)=(n2:Int)-q-1:=za
    by_cases bo:c2-q=1
    ·go_wp2;go_roundw
     case rel=>
      refine⟨r.drop (q+1),(d++yL N 0)++[x-1],qw ⟨b,j+q,qx⟩,n2-q-1,0,np+N+1,p8,b0,rfl,za,a8.out,a4,zH ?_,zH (fun p hp=>by cases hp;exact g.out ⟨b,j,qx⟩ rfl),zH (.inr ⟨za,za,_,_,rfl⟩),au,ap,k⟩;rw[qSw (by rw[F.out];omega)];exact Kit.Src.nil _ _
     case measure=>simp[lenOf];omega
    ·go_wp2;go_roundw
     case rel=>exact⟨r.drop (q+1),(d++yL N 0)++[x-1],qw ⟨b,j+(q+1),qx⟩,n2-q-1,c2-q-1,np+N+1,p8,b0,rfl,za,a8.out,a4,b4,zH (fun p hp=>by cases hp;exact g.out ⟨b,j,qx⟩ rfl),zH (.inr ⟨za,za,_,_,rfl⟩),au,ap,k⟩
     case measure=>simp[lenOf];omega
   ·obtain rfl:q=n2:=za
    have o:r.drop q=[]:=qSw (by rw[F.out];omega);have f:T=(d++yL N 0)++D []:=by rw[az.out,o,qCi]
    have k:=zH f;clear f o;by_cases b9:c2=q
    all_goals
     go_wp2;go_roundw
     case rel=>exact⟨[],d++yL N 0,qw ⟨b,_,qx⟩,0,_,np+N,p6,ag,rfl,qQq _,rfl,zH (fun x hx=>by cases hx),zH (Kit.Src.nil _ _),zH (fun p hp=>by cases hp;exact g.out ⟨b,j,qx⟩ rfl),zH (.inr ⟨qQq _,za,_,_,rfl⟩),R,H,k⟩
     case measure=>simp[lenOf];omega
end Zr
namespace Tn
open Front Bt Zr
def bl (s:ByteArray):List Nat:=s.data.toList.map UInt8.toNat
theorem zB2 (s:ByteArray):kG (bl s)=s.size:=by simp[bl]
theorem zRx (s:ByteArray) (i:Nat) (h:i<s.size):(bl s).getD i 0=s[i].toNat:=by
 have a:i<kG s.data.toList:=by simpa using h
 simp[bl,qPw,qP2,qPu a];rfl
def g1 (l:List Nat) (k j:Nat):Nat:=if j=0 then 0 else E l k (j-1)
theorem zV (l:List Nat) (k c:Nat):g1 l k (c+1)=E l k c:=by simp[g1]
theorem qC (l:List Nat) (k j:Nat):g1 l k j<=k:=by unfold g1;split;omega;exact qH2 _ _ _
theorem qD2 (l:List Nat) (k c:Nat) (h:l.getD k 0=c) (j:Nat):zAy (g1 l k) (c+1) (g1 l k (c+1)+1) j=g1 l (k+1) j:=by
 unfold zAy;by_cases e:j=c+1
 ·subst e;rw[qPr rfl,zV,zV,zR9,qPr h]
 ·rw[qPt e];unfold g1;by_cases a:j=0
  ·rw[qPr a,qPr a]
  ·rw[qPt a,qPt a,zR9,qPt za];rfl
def g2 (l:List Nat) (c j:Nat):Nat:=if j<=c then A l j else g1 l (kG l) j
theorem qD0 (l:List Nat) (j:Nat):g1 l (kG l) j=g2 l 0 j:=by
 unfold g2;by_cases e:j=0
 ·subst e;rw[qPr (qPq _),qGu];rfl
 ·rw[qPt za]
theorem qB9 (l:List Nat) (c j:Nat):g2 l c j<=kG l:=by unfold g2;split;exact qH3 _ _;exact qC _ _ _
theorem qD1 (l:List Nat) (c:Nat) (j:Nat):zAy (g2 l c) (c+1) (g2 l c (c+1)+g2 l c c) j=g2 l (c+1) j:=by
 unfold zAy;by_cases e:j=c+1
 ·subst e;rw[qPr rfl];unfold g2;rw[qPt za,qPr (qPq _),qPr (qPq _),zV,qGv];omega
 ·rw[qPt e];unfold g2;by_cases a:j<=c
  ·rw[qPr a,qPr za]
  ·rw[qPt a,qPt za]
def g3 (l:List Nat) (k j:Nat):Nat:=A l j+E l k j
theorem qDy (l:List Nat) (j:Nat) (h:j<=256):g2 l 256 j=g3 l 0 j:=by unfold g2 g3;rw[qPr h,zYq];rfl
theorem qDz (l:List Nat) (k c:Nat) (h:l.getD k 0=c) (j:Nat):zAy (g3 l k) c (g3 l k c+1) j=g3 l (k+1) j:=by
 unfold zAy g3;rw[zR9];by_cases e:j=c
 ·subst e;rw[qPr rfl,qPr h];omega
 ·rw[qPt e,qPt za];omega
theorem zUf (s:ByteArray) (hs:s.size<=1000000) (w:qy):
  yC yG 113 #[qW s] w fun e w'=>∃a' c',e=qp (qX a' s.size c')/\yg w' w.heap.size 3 a' s.size c' ((zA7 (bl s)).map ival)/\yI w.heap.size w w':=by
 obtain⟨B,hB⟩:=zB w.heap.size;have hz:zeroCells274=cellsOf 257 (fun _=>qV qj 0):=zf
 have x:=zAm.zeros B w 257 274 hB;rw[<-hz]at x;obtain⟨l,hl⟩:=zB (bl s);have K:kG l=s.size:=by rw[<-hl,zB2]
 have L:∀(i:Nat) (h:i<s.size),l.getD i 0=s[i].toNat:=fun i h=>by rw[<-hl,zRx s i h]
 rw[hl];obtain⟨b,P⟩:=yQ K L;obtain⟨W,hW⟩:=zB (w.alloc (qm zeroCells274 274));have a6:yI B w W:=by rw[<-hW,<-hB];exact(yN _ _).alloc (qPq _) _
 rw[hW]at x;obtain⟨a2,Z⟩:=yQ x a6;rw[hB];clear hz hl K L x a6;go_enter func113,ntmps113;go_wp2;clear hW;go_loopw [10] (fun i wr=>∃k:Nat,k<=s.size/\i=qV qj k/\yH (zAm wr B 274 257 (g1 l k))/\yH (yI B w wr)) (fun i _=>s.size-(intOf i).toNat)
 case atStart=>exact⟨0,za,rfl,zH (a2.out.congr (fun k _=>by simp[g1,zYq])),Z⟩
 case round=>
  clear a2 Z;obtain⟨k,hk,rfl,a,z⟩:=hrel;by_cases f:k<s.size
  ·obtain⟨c,hc⟩:=zB (s[k].toNat);have aa:c<256:=by rw[<-hc];exact qTf _
   have hE:=qC l k (c+1);have x0:=a.out.cell (c+1) za;have f0:=a.out.free (c+1);have d:=zH ((a.out.set (c+1) (g1 l k (c+1)+1) (V:=((g1 l k (c+1):Nat):Int)+1) za).congr (fun j _=>qD2 l k c (by rw[P.out k f,hc]) j));obtain⟨q,y⟩:=zB (g1 l k (c+1));rw[y]at x0 hE d;clear y;go_wp2;go_roundw
   case rel=>exact⟨k+1,za,by go_num,d,zH (z.out.setCell (p:=⟨B,c+1,qx⟩) (qPq _) _)⟩
   case measure=>simp[intOf];omega
  ·obtain rfl:k=s.size:=za
   have a1:=zH (a.out.congr (g:=g2 l 0) (fun j _=>by rw[<-b.out];exact qD0 l j));clear a;go_wp2;go_loopw [23] (fun i wr=>∃c:Nat,c<=256/\i=qV qj c/\yH (zAm wr B 274 257 (g2 l c))/\yH (yI B w wr)) (fun i _=>256-(intOf i).toNat)
   case atStart=>exact⟨0,za,rfl,a1,z⟩
   case round=>
    clear a1 z;obtain⟨c,hc,rfl,a,z⟩:=hrel;by_cases f:c<256
    ·have h1:=qB9 l c (c+1);have h2:=qB9 l c c;rw[b.out]at h1 h2;have x0:=a.out.cell (c+1) za;have x1:=a.out.cell c za;have f0:=a.out.free (c+1);have d:=zH ((a.out.set (c+1) (g2 l c (c+1)+g2 l c c) (V:=((g2 l c (c+1):Nat):Int)+((g2 l c c:Nat):Int)) za).congr (fun j _=>qD1 l c j));obtain⟨q,y⟩:=zB (g2 l c (c+1));obtain⟨r,hr⟩:=zB (g2 l c c);rw[y]at x0 h1 d;rw[hr]at x1 h2 d;clear y hr;go_wp2;go_region;go_wp2;go_roundw
     case rel=>exact⟨c+1,za,by go_num,zH d.out,zH (z.out.setCell (p:=⟨B,c+1,qx⟩) (qPq _) _).drew⟩
     case measure=>simp[intOf];omega
    ·obtain rfl:c=256:=za
     have n:=zH (a.out.congr (g:=g3 l 0) (fun j hj=>qDy l j za));obtain⟨w5,a8,I,O⟩:=zOr wr s.size za;obtain⟨Y,a0⟩:=yQ (n.out.keep (O.block B n.out.lt)) (z.out.trans (O.mono (by have:=n.out.lt;omega)));have M:B<wr.heap.size:=n.out.lt;obtain⟨G,hG⟩:=zB wr.heap.size;rw[hG]at a8 I M;have a5:=zH I;clear a n z I O hG;go_wp2;clear a8;go_loopw [41] (fun i wr=>∃(k:Nat) (o:List Nat),k<=s.size/\i=qV qj k/\kG o=s.size/\yH (∀i,i<k->o.getD (pos l i) 0=i)/\yH (zAm wr B 274 257 (g3 l k))/\yH (yg wr G 3 (qw ⟨G,0,qx⟩) s.size s.size (o.map ival))/\yH (yI B w wr)) (fun i _=>s.size-(intOf i).toNat)
     case atStart=>exact⟨0,yL s.size 0,za,rfl,zm,zH (fun i hi=>za),Y,a5,a0⟩
     case round=>
      clear Y a5 a0;obtain⟨k,o,hk,rfl,a4,N,a,t,z⟩:=hrel;by_cases f:k<s.size
      ·obtain⟨c,hc⟩:=zB (s[k].toNat);have aa:c<256:=by rw[<-hc];exact qTf _
       have S:l.getD k 0=c:=by rw[P.out k f,hc]
       have x0:=a.out.cell c za;have f0:=a.out.free c;have R:g3 l k c=pos l k:=by unfold g3 pos;rw[S]
       have u:=qFc l k (by rw[b.out];exact f);rw[b.out]at u;obtain⟨q,y⟩:=zB (pos l k);rw[y]at u;rw[R,y]at x0;obtain⟨G',m,_,_,_,F,a3⟩:=t.out.at_ za;injection m with m
       injection m with m _ _
       subst m;have y0:=F q u;rw[qP2,qPu (show q<kG o by omega),qRs]at y0;have f1:=a3 q;obtain⟨v0,a7⟩:=zB (ival o[q]);rw[a7]at y0;have x1:(wr.setCell ⟨G,q,qx⟩ (qV qj (k:Int))).cell? ⟨B,c,qx⟩=qw (qV qj (q:Int)):=by
        rw[qQe _ _ _ _ (by intro e;injection e with e1 _ _;omega)];exact x0
       have f2:(wr.setCell ⟨G,q,qx⟩ (qV qj (k:Int))).frozen? ⟨B,c,qx⟩=yE:=by rw[qSx];exact f0
       have X:=t.out.set q (ival k) u;rw[<-List.map_set]at X;have HO:=zH (zD4 (i:=c) X M (qV qj ((q:Int)+1)));have a9:zAm (wr.setCell ⟨G,q,qx⟩ (ival k)) B 274 257 (g3 l k):=a.out.keep (zAa za);obtain⟨HA,HB⟩:=yQ ((a9.set c (g3 l k c+1) (V:=(q:Int)+1) (by rw[R,y];omega)).congr (fun j _=>qDz l k c S j)) ((z.out.setCell (p:=⟨G,q,qx⟩) (qP6 M) (ival k)).setCell (p:=⟨B,c,qx⟩) (qPq _) (qV qj ((q:Int)+1)));have HP:=yP (∀i,i<k+1->(o.set q k).getD (pos l i) 0=i) (by
        intro i hi;by_cases e:i=k
        ·subst e;rw[y,qPw,List.getElem?_set_self za];rfl
        ·have hne:q≠pos l i:=fun h=>e (qC0 l i k (by rw[b.out];omega) (by rw[b.out];omega) (by rw[y];exact h.symm));rw[qPw,qT5 hne,<-qPw];exact N.out i za)
       clear F a3 a7 X a9 R y S;go_wp2;go_roundw
       case rel=>exact⟨k+1,o.set q k,za,by go_num,by rw[qR1];exact a4,HP,HA,HO,HB⟩
       case measure=>simp[intOf];omega
      ·obtain rfl:k=s.size:=za
       have H:=qEl l o (by rw[a4,b.out]) (fun i hi=>N.out i (by rw[b.out]at hi;exact hi));have HE:=zH H;clear H;go_wp2;go_ret;exact⟨qw ⟨G,0,qx⟩,s.size,rfl,by rw[<-HE.out];exact t.out.base za,z.out⟩
end Tn
namespace Tn
open Front Bt Zr
def unL (s:ByteArray) (g:Nat):List UInt8:=(yK s.size).map fun i=>s.data.getD (walk (zA7 (bl s)) g (i+1)) 0
theorem zTb (s:ByteArray) (g:Nat):kG (unL s g)=s.size:=by simp[unL]
theorem walk_lt (s:ByteArray) (g:Nat) (a:g<s.size):∀k,walk (zA7 (bl s)) g k<s.size
 |0=>a
 |k+1=>by
  have c:=walk_lt s g a k;have b:kG (zA7 (bl s))=s.size:=by rw[show(zA7 (bl s)).length=kG (bl s) from zCn _ _,zB2]
  show(zA7 (bl s)).getD _ 0<_;rw[qPw,qPu za];have:=qQm.1 ((zCl (bl s)).perm.mem_iff.1 (qQ (show walk (zA7 (bl s)) g k<kG (zA7 (bl s)) by omega)));rw[zB2]at this;exact this
theorem zU3 (w:qy) (n:Nat) (o:n<=1000000):∃w',(Instr.makeSlice 109 (qV qj (n:Int)) (qV qj (n:Int))).run yG w= .ok (qX (qw ⟨w.heap.size,0,qx⟩) n n) w'/\
  yg w' w.heap.size TB (qw ⟨w.heap.size,0,qx⟩) n n ((yL n (0:UInt8)).map xE)/\yI w.heap.size w w':=by
 obtain⟨z,l,m⟩:=zNh.row;obtain⟨i,hi,a,d,b⟩:=qR0 l;have c:(Value.int ql 0)=z:=by
  have e:(prog.info? TB).map (fun i=>i.zero)=qw (qw (qV ql 0)):=zf
  rw[hi]at e;simp only[qRs,qTy]at e;rw[a]at e;exact(qPv e).symm
 obtain⟨w',j,f,g⟩:=run_makeSlice_full (P:=yG) (w:=w) w.heap.size 109 TB i z 1 zNh.ut hi a d qj qj n za (by rw[b];omega) (by unfold maxLen;omega) (qPq _);refine⟨w',j,?_,(yN _ _).grown g (qPq _) (fun k h=>by cases h)⟩;subst c;rw[Nat.mul_one,show(Value.int ql 0).cells= #[qV ql 0]from rfl,toList_madeCells_one]at f;rw[List.map_replicate];exact f
theorem zHm (s:ByteArray) (g:Nat) (hs:s.size<=1000000) (hg:g<s.size) (w:qy):
  yC yG 39 #[qW s,qV qj (g:Int)] w fun e w'=>e=qp (qZ #[qW ⟨(unL s g).toArray⟩,qV qj 0])/\yI w.heap.size w w':=by
 obtain⟨B,hB⟩:=zB w.heap.size;have HV:=zH (zUf s hs w);rw[hB]at HV;have I:kG (zA7 (bl s))=s.size:=by rw[show(zA7 (bl s)).length=kG (bl s) from zCn _ _,zB2]
 have HW:=zH (walk_lt s g hg);obtain⟨U,hU⟩:=zB (unL s g);have X:=yP (∀i,i<s.size->U[i]? =qw (s.data.getD (walk (zA7 (bl s)) g (i+1)) 0)) (fun i hi=>by rw[<-hU];unfold unL;rw[qP2,qSe hi];rfl);have r:=yP (kG U=s.size) (by rw[<-hU,zTb]);obtain⟨v,hv⟩:=zB (zA7 (bl s));rw[hv]at HV I X HW;rw[hU];have a8:=zH I;clear hU hv I;rw[hB];have a9:¬max (s.size:Int) 1<=(g:Int):=za
 go_enter func39,ntmps39;go_wp2_with fail;(with_reducible refine HV.out.mono ?_);rintro e w2 ⟨a',c',rfl,b,L⟩;have u:B<=w2.heap.size:=by have:=L.size;omega
 obtain⟨w3,a4,F,M⟩:=zU3 w2 s.size za;have N:=(b.below M (qPq _));have R:=zH (L.trans (M.mono u));obtain⟨a0,aa,ab,a7⟩:=b.at_ za;obtain⟨a,ac,_⟩:=a7;have a5:a0<w2.heap.size:=a;obtain⟨G,hG⟩:=zB w2.heap.size;rw[hG]at a4 F u a5;subst aa;obtain⟨a2,Y⟩:=yQ N F;clear N b F L M hG a HV a9;go_wp2;clear a4;go_loopw [27,8] (fun i v0 wr=>∃(k:Nat) (o:List UInt8),k<=s.size/\i=qV qj k/\v0=qV qj (walk v g k:Int)/\yH (kG o=s.size/\o.take k=U.take k)/\yH (yg wr B 3 (qw ⟨a0,0,qx⟩) s.size c' (v.map ival))/\yH (yg wr G TB (qw ⟨G,0,qx⟩) s.size s.size (o.map xE))/\yH (yI B w wr)) (fun i _ _=>s.size-(intOf i).toNat)
 case atStart=>exact⟨0,yL s.size 0,za,rfl,rfl,zH ⟨zm,zm⟩,a2,Y,R⟩
 case round=>
  clear a2 Y R;obtain⟨k,o,hk,rfl,rfl,y,O,j,hb⟩:=hrel;by_cases f:k<s.size
  ·have hp:=HW.out k;obtain⟨p,H⟩:=zB (walk v g k);rw[H]at hp⊢;have S:=HW.out (k+1);have m:walk v g (k+1)=v.getD p 0:=by rw[<-H];rfl
   have a3:p<kG v:=by rw[a8.out];exact hp
   obtain⟨q,z⟩:=zB (walk v g (k+1));rw[z]at S;have V:v[p]=q:=by rw[<-z,m,qPw,qPu a3];rfl
   obtain⟨a1,a,_,_,_,l,_⟩:=O.out.at_ za;injection a with a
   injection a with a _ _
   subst a;have y0:=l p hp;rw[qP2,qPu a3,V,qRs]at y0;obtain⟨G',h,_,_,_,d,K⟩:=j.out.at_ za;injection h with h
   injection h with h _ _
   subst h;have y1:=d k f;have W:k<kG o:=by rw[y.out.1];exact f
   rw[qP2,qPu W,qRs]at y1;obtain⟨v0,Z⟩:=zB (xE o[k]);rw[Z]at y1;have f1:=K k;obtain⟨c,hc⟩:=zB (s[q]);have t:U[k]? =qw c:=by
    rw[X.out k f,z,<-hc];congr 1;exact zRf s q S
   have b:=j.out.set k (xE c) f;rw[<-List.map_set]at b;obtain⟨HO,HS,HB⟩:=yR b (qRy O.out (zB1 wr G k (xE c)) (.inr (by intro e;simp[Value.ownBlock]at e;omega))) (hb.out.setCell (p:=⟨G,k,qx⟩) u (xE c));have HK:=yP (kG (o.set k c)=s.size/\(o.set k c).take (k+1)=U.take (k+1)) (by
    refine⟨by rw[qR1];exact y.out.1,?_⟩;have x:k<kG U:=by rw[r.out];exact f
    rw[qQo (by rw[qR1];exact W),qQo x,List.take_set_of_le (qPq _),y.out.2];rw[List.getElem_set_self];rw[qPu x]at t;rw[qPv t])
   have HQ:=zH z;clear H m z V l d K Z t b;go_wp2;go_roundw
   case rel=>exact⟨k+1,o.set k c,za,by go_num,by rw[HQ.out],HK,HS,HO,HB⟩
   case measure=>simp[intOf];omega
  ·obtain rfl:k=s.size:=za
   have a6:o=U:=by
    have h1:=y.out.2;rwa[qQg (by rw[y.out.1];omega),qQg (by rw[r.out];omega)]at h1
   subst a6;have ad:=Kit.Src.text (P:=yG) (n:=s.size) (c:=s.size) (src:=109) (dst:=9) j.out.src r.out underlying109 underlying5 underlying9;go_wp2;go_ret2;exact⟨rfl,hb.out⟩
end Tn
namespace Hf
open Bt
variable {l:List Nat}
def whose (l:List Nat) (n:Nat):List Nat:=(yK (kG l)).filter fun s=>l.getD s 0==n
def cnt (l:List Nat) (n:Nat):Nat:=kG (whose l n)
def first(l:List Nat):Nat->Nat
 |0=>0
 |n+1=>2*(first l n+cnt l n)
def rank (l:List Nat) (s:Nat):Nat:=kG ((yK s).filter fun i=>l.getD i 0==l.getD s 0)
def zB9 (l:List Nat) (s:Nat):Nat:=first l (l.getD s 0)+rank l s
def word (l:List Nat) (s:Nat):List Bool:=num (zB9 l s) (l.getD s 0)
structure Right (l:List Nat):Prop where
 two:2<=kG l
 most:kG l<=258
 one:∀x∈l,1<=x
 top:∀x∈l,x<=20
 zEs:∀n,n<=20->first l n+cnt l n<=2^n
theorem zGh (p:Nat->Bool):∀(n s:Nat),s<n->p s=yD->((yK n).filter p)[kG ((yK s).filter p)]? =qw s
 |0,s,h,_=>za
 |n+1,s,h,hp=>by
  rw[qQu,List.filter_append];rcases qP8 s n with c|c
  ·have b:=zGh p n s c hp;rw[qR6]
   ·exact b
   ·rcases qP8 (kG ((yK s).filter p)) (kG ((yK n).filter p)) with a|a
    ·exact a
    ·rw[qQp a]at b;cases b
  ·obtain rfl:s=n:=za
   rw[qS4 (qPq _),Nat.sub_self];simp[hp]
theorem zDx (l:List Nat) (s:Nat) (a:s<kG l):(whose l (l.getD s 0))[rank l s]? =qw s:=
 zGh (fun i=>l.getD i 0==l.getD s 0) (kG l) s a zm
theorem zJn (l:List Nat) (s:Nat) (b:s<kG l):rank l s<cnt l (l.getD s 0):=by
 have h:=zDx l s b;rcases qP8 (rank l s) (cnt l (l.getD s 0))with a|a
 ·exact a
 ·rw[qQp a]at h;cases h
theorem zRt (h:∀x∈l,1<=x):cnt l 0=0:=by
 unfold cnt whose;rw[List.length_eq_zero_iff,List.filter_eq_nil_iff];intro s a b;have a:=qQm.1 a;have:l.getD s 0=l[s]:=by simp[qPw,qPu a]
 have c:=h l[s] (qQ a);have d:l.getD s 0=0:=by simpa using b
 omega
theorem zMr (l:List Nat):∀(d n:Nat),(first l n+cnt l n)*2^d<=first l (n+d)+(if d=0 then cnt l n else 0)
 |0,n=>by simp
 |d+1,n=>by
  have a:=zMr l d n;rw[qPt za,qRq];have e:first l (n+(d+1))=2*(first l (n+d)+cnt l (n+d)):=rfl
  rw[e];by_cases hd:d=0
  ·subst hd;simp at a⊢;omega
  ·rw[qPt hd]at a;have:(first l n+cnt l n)*(2^d*2)=2*((first l n+cnt l n)*2^d):=by rw[<-qTc,qRo _ 2]
   omega
theorem zF6 {s:Nat} (a:s<kG l):l.getD s 0∈l:=by
 have:l.getD s 0=l[s]:=by simp[qPw,qPu a]
 rw[this];exact qQ a
theorem zPt (h:Right l) (s:Nat) (a:s<kG l):zB9 l s<2^l.getD s 0:=by
 have b:=zJn l s a;have c:=h.zEs (l.getD s 0) (h.top _ (zF6 a));unfold zB9;omega
theorem zSc (h:Right l) (s:Nat) (c:s<kG l) (n:Nat) (b:n<l.getD s 0):first l n+cnt l n<=zB9 l s/2^(l.getD s 0-n):=by
 have a:=zMr l (l.getD s 0-n) n;rw[qPt za,show n+(l.getD s 0-n)=l.getD s 0 by omega]at a;rw[Nat.le_div_iff_mul_le (Nat.two_pow_pos _)];unfold zB9;omega
theorem qAa (v n k:Nat) (a:k<=n):(num v n).take k=num (v/2^(n-k)) k:=by
 unfold num;rw[<-qTx,List.take_range,qTs a];refine qRx fun i hi=> ?_;have:=qQm.1 hi;rw[Nat.testBit_div_two_pow];congr 1;omega
theorem zCu (l:List Nat) (s:Nat):kG (word l s)=l.getD s 0:=zAc _ _
theorem zPh (h:Right l) (s:Nat) (b:s<kG l) (n:Nat) (a:n<=l.getD s 0):val ((word l s).take n)=zB9 l s/2^(l.getD s 0-n):=by
 unfold word;rw[qAa _ _ _ a,zT,qRg];rw[Nat.div_lt_iff_lt_mul (Nat.two_pow_pos _),<-Nat.pow_add,show n+(l.getD s 0-n)=l.getD s 0 by omega];exact zPt h s b
end Hf
namespace Wg
open Hf
variable {m n S:Nat} {p:Nat×Nat}
inductive Tr where
 |leaf (i:Nat)
 |node (a b:Tr)
def Tr.height:Tr->Nat
 | .leaf _=>0
 | .node a b=>max a.height b.height+1
def Tr.leaves:Tr->List (Nat×Nat)
 | .leaf i=>[(i,0)]
 | .node a b=>(a.leaves++b.leaves).map fun p=>(p.1,p.2+1)
def Tr.names (t:Tr):List Nat:=t.leaves.map Prod.fst
theorem Tr.zU1 (a b:Tr):(Tr.node a b).names=a.names++b.names:=by
 simp[Tr.names,Tr.leaves,Function.comp_def]
theorem Tr.zLk:∀(t:Tr) (p:Nat×Nat),p∈t.leaves->p.2<=t.height
 | .leaf i,p,h=>by simp[Tr.leaves]at h;subst h;exact qQq _
 | .node a b,p,h=>by
  simp only[Tr.leaves,qQf,qSi]at h;obtain⟨q,c,rfl⟩:=h;rcases c with c|c
  ·have:=Tr.zLk a q c;simp only[Tr.height];omega
  ·have:=Tr.zLk b q c;simp only[Tr.height];omega
theorem Tr.zEs:∀(t:Tr) (H:Nat),t.height<=H->(t.leaves.map fun p=>2^(H-p.2)).sum=2^H
 | .leaf i,H,_=>by simp[Tr.leaves]
 | .node a b,H,h=>by
  simp only[Tr.height]at h;obtain⟨g,rfl⟩:∃g,H=g+1:=⟨H-1,za⟩;have f:=Tr.zEs a g za;have c:=Tr.zEs b g za;simp only[Tr.leaves,qRr,Function.comp_def,qQd,List.sum_append];have e:∀d,g+1-(d+1)=g-d:=fun d=>za
  simp only[e];rw[f,c,qRq];omega
def fib:Nat->Nat
 |0=>0
 |1=>1
 |n+2=>fib (n+1)+fib n
theorem zO1:∀n,fib n<=fib (n+1)
 |0=>z8
 |1=>z8
 |n+2=>by show fib (n+1)+fib n<=fib (n+2)+fib (n+1);have:=zO1 n;show fib (n+1)+fib n<=(fib (n+1)+fib n)+fib (n+1);omega
theorem qA4 (h:m<=n):fib m<=fib n:=by
 obtain⟨k,rfl⟩:∃k,n=m+k:=⟨n-m,za⟩;clear h
 induction k with
 |zero=>exact qPq _
 |succ k ih=>exact qP4 ih (zO1 _)
structure Q where
 w:Nat
 x:Nat
 t:Tr
def before (a b:Q):Prop:=a.w<b.w\/(a.w=b.w/\a.x<b.x)
instance (a b:Q):Decidable (before a b):=inferInstanceAs (Decidable (_\/_))
theorem before_trans {a b c:Q} (d:before a b) (e:before b c):before a c:=by unfold before at*;omega
theorem before_total {a b:Q} (h:a.x≠b.x):¬before a b->before b a:=by unfold before;omega
theorem zPd {a b:Q} (h:before a b):a.w<=b.w:=by unfold before at h;omega
def ins (e:Q):List Q->List Q
 |[]=>[e]
 |y::r=>if before e y then e::y::r else y::ins e r
theorem zBh (e:Q):∀q:List Q,(ins e q).Perm (e::q)
 |[]=>qTt _
 |y::r=>by
  unfold ins;split
  ·exact qTt _
  ·exact((zBh e r).cons y).trans (List.Perm.swap e y r)
theorem zH5 (e:Q):∀q:List Q,q.Pairwise before->(∀y∈q,y.x≠e.x)->(ins e q).Pairwise before
 |[],_,_=>by simp[ins]
 |y::r,h,hx=>by
  obtain⟨c,d⟩:=qQ1.1 h;unfold ins;split
  ·rename_i hb
   refine qQ1.2 ⟨fun z b=> ?_,h⟩;rcases qP7.1 b with rfl|b
   ·exact hb
   ·exact before_trans hb (c z b)
  ·rename_i hb
   have a:before y e:=before_total (qQ2 (hx y zm)) hb;refine qQ1.2 ⟨fun z b=> ?_,zH5 e r d (fun z b=>hx z (by simp[b]))⟩;rcases qP7.1 ((zBh e r).mem_iff.1 b)with rfl|b
   ·exact a
   ·exact c z b
def build:Nat->Nat->List Q->List Q
 |0,_,q=>q
 |k+1,n,a::b::r=>build k (n+1) (ins ⟨a.w+b.w,n,.node a.t b.t⟩ r)
 |_+1,_,q=>q
def zAt:Nat->List Nat->List Q->List Q
 |_,[],q=>q
 |i,w::ws,q=>zAt (i+1) ws (ins ⟨w,i,.leaf i⟩ q)
def tree (ws:List Nat):Tr:=
 match build (kG ws-1) (kG ws) (zAt 0 ws [])with
 |[e]=>e.t
 |_=> .leaf 0
def zHh (t:Tr) (i:Nat):Nat:=((t.leaves.find? fun p=>p.1==i).map Prod.snd).getD 0
def lens (ws:List Nat):List Nat:=(yK (kG ws)).map (zHh (tree ws))
structure Inv (m S n:Nat) (q:List Q):Prop where
 sorted:q.Pairwise before
 below:∀e∈q,e.x<n
 apart:(q.map Q.x).Nodup
 sum:(q.map Q.w).sum=S
 names:(q.flatMap fun e=>e.t.names).Perm (yK m)
 fib1:∀e∈q,fib (e.t.height+2)<=e.w
 fib2:∀e∈q,∀f∈q,fib (e.t.height+1)<=f.w
theorem Inv.leaf {q:List Q} (h:Inv m S m q) (w:Nat) (l:1<=w) (j:∀e∈q,e.t.height=0/\1<=e.w):Inv (m+1) (S+w) (m+1) (ins ⟨w,m,.leaf m⟩ q):=by
 have d:=zBh ⟨w,m,.leaf m⟩ q;have a:∀e∈ins ⟨w,m,.leaf m⟩ q,e.t.height=0/\1<=e.w:=by
  intro e c;rcases qP7.1 (d.mem_iff.1 c)with rfl|c
  ·exact⟨rfl,l⟩
  ·exact j e c
 refine⟨zH5 _ _ h.sorted (fun y r=>by have:=h.below y r;show y.x≠m;omega),fun e c=> ?_,?_,?_,?_,fun e c=> ?_,fun e c f k=> ?_⟩
 ·rcases qP7.1 (d.mem_iff.1 c)with rfl|c
  ·exact qQ6 _
  ·have:=h.below e c;omega
 ·rw[(d.map Q.x).nodup_iff,qQa,qSz];refine⟨fun o=> ?_,h.apart⟩;obtain⟨e,c,b⟩:=qQf.1 o;have:=h.below e c;have b:e.x=m:=b;omega
 ·rw[(d.map Q.w).sum_nat,qQa,qRc,h.sum];show w+S=_;omega
 ·refine(d.flatMap_right _).trans ?_;rw[qSl,qQu];show([m]++_).Perm _;exact(List.perm_append_comm).trans (h.names.append_right _)
 ·obtain⟨g,i⟩:=a e c;rw[g];exact i
 ·obtain⟨g,_⟩:=a e c;obtain⟨_,i⟩:=a f k;rw[g];exact i
theorem Inv.join {a b:Q} {r:List Q} (h:Inv m S n (a::b::r)):Inv m S (n+1) (ins ⟨a.w+b.w,n,.node a.t b.t⟩ r):=by
 have t:=zBh ⟨a.w+b.w,n,.node a.t b.t⟩ r;obtain⟨s1,s2⟩:=qQ1.1 h.sorted;obtain⟨s3,s4⟩:=qQ1.1 s2;have j:=zPd (s1 b zm);have k:∀e∈r,b.w<=e.w:=fun e l=>zPd (s3 e l);have B:=h.fib1 a zm;have F:=h.fib1 b zm;have K:=h.fib2 a zm b zm;have L:=h.fib2 b zm a zm;have i:fib (max a.t.height b.t.height+1+2)<=a.w+b.w:=by
  show fib (max a.t.height b.t.height+2)+fib (max a.t.height b.t.height+1)<=_;rcases Nat.le_total a.t.height b.t.height with o|o
  ·rw[Nat.max_eq_right o];omega
  ·rw[Nat.max_eq_left o];omega
 have d:∀w,b.w<=w->fib (max a.t.height b.t.height+1+1)<=w:=by
  intro w z;rcases Nat.le_total a.t.height b.t.height with o|o
  ·rw[Nat.max_eq_right o];exact qP4 F z
  ·rw[Nat.max_eq_left o];exact qP4 B (qP4 j z)
 have c:∀e∈ins ⟨a.w+b.w,n,.node a.t b.t⟩ r,e=⟨a.w+b.w,n,.node a.t b.t⟩\/e∈r:=fun e l=>qP7.1 (t.mem_iff.1 l);have q:∀e∈r,e∈a::b::r:=fun e l=>by simp[l]
 refine⟨zH5 _ _ s4 (fun y I=>by have:=h.below y (q y I);show y.x≠n;omega),fun e l=> ?_,?_,?_,?_,fun e l=> ?_,fun e l f s=> ?_⟩
 ·rcases c e l with rfl|l
  ·exact qQ6 _
  ·have:=h.below e (q e l);omega
 ·rw[(t.map Q.x).nodup_iff,qQa,qSz];have u:=h.apart;rw[qQa,qQa,qSz,qSz]at u;refine⟨fun H=> ?_,u.2.2⟩;obtain⟨e,l,g⟩:=qQf.1 H;have:=h.below e (q e l);have g:e.x=n:=g;omega
 ·rw[(t.map Q.w).sum_nat,qQa,qRc];have G:=h.sum;rw[qQa,qQa,qRc,qRc]at G;show a.w+b.w+_=S;omega
 ·refine(t.flatMap_right _).trans ?_;rw[qSl];have x:=h.names;rw[qSl,qSl]at x;show((Tr.node a.t b.t).names++_).Perm _;rw[Tr.zU1,qQw];exact x
 ·rcases c e l with rfl|l
  ·exact i
  ·exact h.fib1 e (q e l)
 ·rcases c e l with rfl|l
  ·rcases c f s with rfl|s
   ·exact d _ (by show b.w<=a.w+b.w;omega)
   ·exact d _ (k f s)
  ·rcases c f s with rfl|s
   ·exact qP4 (h.fib2 e (q e l) a zm) (by show a.w<=a.w+b.w;omega)
   ·exact h.fib2 e (q e l) f (q f s)
theorem Inv.start:∀(ws:List Nat) (i S:Nat) (q:List Q),Inv i S i q->(∀e∈q,e.t.height=0/\1<=e.w)->(∀w∈ws,1<=w)->Inv (i+kG ws) (S+ws.sum) (i+kG ws) (zAt i ws q)/\kG (zAt i ws q)=kG q+kG ws
 |[],i,S,q,h,_,_=>⟨by simpa [zAt]using h,by simp[zAt]⟩
 |w::ws,i,S,q,h,hall,hw=>by
  have c:=zBh ⟨w,i,.leaf i⟩ q;have d:=h.leaf w (hw w zm) hall;have a:=Inv.start ws (i+1) (S+w) (ins ⟨w,i,.leaf i⟩ q) d (fun e b=>by
   rcases qP7.1 (c.mem_iff.1 b)with rfl|b
   ·exact⟨rfl,hw w zm⟩
   ·exact hall e b) (fun v hv=>hw v (by simp[hv]))
  rw[qP3,qRc];rw[show i+1+kG ws=i+(kG ws+1)by omega,show S+w+ws.sum=S+(w+ws.sum)by omega]at a;refine⟨a.1,?_⟩;show(zAt (i+1) ws (ins ⟨w,i,.leaf i⟩ q)).length=_;rw[a.2,c.length_eq,qP3];omega
theorem zO9 (k n:Nat) (q:List Q) (h:k<kG q):kG (build k n q)=kG q-k:=by
 induction k generalizing n q with
 |zero=>simp[build]
 |succ k ih=>
  match q,h with
  |a::b::r,h=>
   have c:=(zBh ⟨a.w+b.w,n,.node a.t b.t⟩ r).length_eq;rw[qP3]at c;show(build k (n+1) _).length=_;rw[ih _ _ (by rw[c];simp at h;omega),c];simp
theorem Inv.build (k n:Nat) (q:List Q) (h:Inv m S n q) (d:k<kG q):Inv m S (n+k) (build k n q):=by
 induction k generalizing n q with
 |zero=>exact h
 |succ k ih=>
  match q,h,d with
  |a::b::r,h,d=>
   have c:=(zBh ⟨a.w+b.w,n,.node a.t b.t⟩ r).length_eq;rw[qP3]at c;have:=ih (n+1) _ h.join (by rw[c];simp at d;omega);rwa[show n+1+k=n+(k+1)by omega]at this
theorem Inv.nil:Inv 0 0 0 []:=⟨List.Pairwise.nil,fun e h=>(by cases h),List.nodup_nil,rfl,qTt _,fun e h=>(by cases h),fun e h=>(by cases h)⟩
theorem zN9 (ws:List Nat) (i:1<=kG ws) (g:∀w∈ws,1<=w):(tree ws).names.Perm (yK (kG ws))/\fib ((tree ws).height+2)<=ws.sum:=by
 obtain⟨f,d⟩:=Inv.start ws 0 0 [] Inv.nil (fun e h=>by cases h) g;rw[qQc,qQc]at f;simp at d;have c:=f.build (kG ws-1) (kG ws) _ (by rw[d];omega);have a:=zO9 (kG ws-1) (kG ws) (zAt 0 ws []) (by rw[d];omega);rw[d]at a;unfold tree
 match hq:build (kG ws-1) (kG ws) (zAt 0 ws []),a with
 |[e],_=>
  rw[hq]at c;refine⟨by simpa using c.names,?_⟩;have:=c.fib1 e zm;have b:=c.sum;simp at b;rw[<-b];exact this
 |[],a=>simp at a;omega
 |_::_::_,a=>simp at a;omega
theorem zX4 {l:List (Nat×Nat)} (h:(l.map Prod.fst).Nodup) (a:p∈l):l.find? (fun q=>q.1==p.1)=qw p:=by
 induction l with
 |nil=>cases a
 |cons q r ih=>
  rw[qQa,qSz]at h;rw[List.find?_cons];rcases qP7.1 a with rfl|a
  ·simp
  ·have hne:(q.1==p.1)=yE:=by
    rw[qSc];intro e;exact h.1 (by rw[e];exact qQf.2 ⟨p,a,rfl⟩)
   rw[hne];exact ih h.2 a
theorem zKs {t:Tr} (h:t.names.Nodup) (a:p∈t.leaves):zHh t p.1=p.2:=by
 unfold zHh;rw[zX4 h a];rfl
theorem zSq {t:Tr} (h:t.names.Perm (yK m)):t.leaves.Perm ((yK m).map fun i=>(i,zHh t i)):=by
 have a:t.names.Nodup:=h.nodup_iff.2 qTw;have e:t.leaves=t.names.map fun i=>(i,zHh t i):=by
  unfold Tr.names;rw[qRr]
  conv=>lhs;rw[<-List.map_id t.leaves]
  refine qRx fun p b=> ?_;simp only[Function.comp,id];rw[zKs a b]
 rw[e];exact h.map _
theorem zC0 (ws:List Nat):kG (lens ws)=kG ws:=by simp[lens]
theorem zJ (l:List Nat) (n:Nat):cnt l n=l.count n:=by
 unfold cnt whose;have e:l=(yK (kG l)).map fun s=>l.getD s 0:=by
  apply qRt;intro i;rw[qP2];rcases qP8 i (kG l) with h|h
  ·rw[qSe h,qPu h];simp[qPw,qPu h]
  ·rw[List.getElem?_eq_none h,List.getElem?_eq_none (by simpa using h)];rfl
 conv=>rhs;rw[e]
 rw[List.count_eq_length_filter,List.filter_map,qQi];congr 1
def part (l:List Nat) (n:Nat):Nat:=(l.map fun x=>if x<=n then 2^(20-x)else 0).sum
theorem zXa (l:List Nat) (n:Nat):part l (n+1)=part l n+l.count (n+1)*2^(20-(n+1)):=by
 induction l with
 |nil=>simp[part]
 |cons x l ih=>
  unfold part at ih⊢;rw[qQa,qQa,qRc,qRc,ih,List.count_cons];by_cases h:x=n+1
  ·subst h;rw[qPr (qPq _),qPt za,beq_self_eq_true,qPr rfl,qQt,qRn];omega
  ·have b:(x==n+1)=yE:=by simpa using h
   rw[b];by_cases a:x<=n
   ·rw[qPr za,qPr a];simp;omega
   ·rw[qPt za,qPt a];simp
theorem zOi:∀{l:List Nat},(∀x∈l,1<=x)->part l 0=0
 |[],_=>rfl
 |x::l,h=>by
  have a:=zOi (l:=l) (fun y b=>h y (by simp[b]));have c:=h x zm;unfold part at a⊢;rw[qQa,qRc,a,qPt za]
theorem zMd {l:List Nat} (h:∀x∈l,1<=x):∀n,n<=20->(first l n+cnt l n)*2^(20-n)=part l n
 |0,_=>by
  rw[zOi h,zRt h];show(0+0)*_=0;rw[qRh,Nat.zero_mul]
 |n+1,hn=>by
  have a:=zMd h n za;rw[zXa,<-a,zJ l (n+1)];show(2*(first l n+cnt l n)+_)*_=_;rw[qQt,show 20-n=20-(n+1)+1 by omega,qRq,qRo 2,qTc,qRo 2]
theorem qC1 (l:List Nat) (n:Nat):part l n<=(l.map fun x=>2^(20-x)).sum:=by
 induction l with
 |nil=>simp[part]
 |cons x l ih=>
  unfold part at ih⊢;rw[qQa,qQa,qRc,qRc];generalize 2^(20-x)=K;split
  ·omega
  ·omega
theorem zU4 (ws:List Nat) (z:2<=kG ws) (s:kG ws<=258) (u:∀w∈ws,1<=w) (G:ws.sum<=20000):Right (lens ws):=by
 obtain⟨o,I⟩:=zN9 ws za u;have k:(tree ws).height<=20:=by
  rcases qP8 20 (tree ws).height with h|h
  ·have:=qA4 (show 23<=(tree ws).height+2 by omega);have H:fib 23=28657:=by decide+kernel
   omega
  ·exact h
 have r:=zSq o;have c:∀x∈lens ws,1<=x/\x<=20:=by
  intro x d;unfold lens at d;obtain⟨i,hi,rfl⟩:=qQf.1 d;have e:(i,zHh (tree ws) i)∈(tree ws).leaves:=r.mem_iff.2 (qQf.2 ⟨i,hi,rfl⟩);refine⟨?_,qP4 ((tree ws).zLk _ e) k⟩;cases ht:tree ws with
  |leaf j=>
   have:=o.length_eq;rw[ht]at this;simp[Tr.names,Tr.leaves]at this;omega
  |node a b=>
   rw[ht]at e;simp only[Tr.leaves,qQf]at e;obtain⟨q,_,F⟩:=e;injection F with _ g
   omega
 refine⟨by rw[zC0];exact z,by rw[zC0];exact s,fun x d=>(c x d).1,fun x d=>(c x d).2,fun n t=> ?_⟩;have y:=zMd (fun x d=>(c x d).1) n t;have f:=qC1 (lens ws) n;have B:((lens ws).map fun x=>2^(20-x)).sum=2^20:=by
  have l:=(tree ws).zEs 20 k;rw[(r.map fun p=>2^(20-p.2)).sum_nat,qRr]at l;unfold lens;rw[qRr];exact l
 rw[B,<-y]at f;have g:2^20=2^n*2^(20-n):=by rw[<-Nat.pow_add];congr 1;omega
 rw[g]at f;exact Nat.le_of_mul_le_mul_right f (Nat.two_pow_pos _)
end Wg
namespace Wg
open Go.Sort
section
variable {α:Type} {lt:α->α->Bool} {n i:Nat} {f g:Nat->α}
theorem zR0 (h:SWO lt) {x y:α} (a:lt x y=yD):lt y x=yE:=by
 cases hyx:lt y x with
 |false=>rfl
 |true=>
  have:=h.trans x y x a hyx;rw[h.irrefl]at this;cases this
def Hp (lt:α->α->Bool) (n:Nat) (f:Nat->α):Prop:=∀k,0<k->k<n->lt (f k) (f ((k-1)/2))=yE
structure Up (lt:α->α->Bool) (n i:Nat) (f:Nat->α):Prop where
 ok:∀k,0<k->k<n->k≠i->lt (f k) (f ((k-1)/2))=yE
 kid:∀k,0<k->k<n->(k-1)/2=i->0<i->lt (f k) (f ((i-1)/2))=yE
theorem Up.start (h:Hp lt n f) (e:∀k,k<n->g k=f k):Up lt (n+1) n g:=by
 refine⟨fun k a b c=> ?_,fun k a b c d=>za⟩;rw[e k za,e ((k-1)/2) za];exact h k a za
theorem Up.stop (h:Up lt n i f) (a:i=0\/lt (f i) (f ((i-1)/2))=yE):Hp lt n f:=by
 intro k b c;by_cases e:k=i
 ·subst e;rcases a with a|a
  ·omega
  ·exact a
 ·exact h.ok k b c e
theorem Up.step (e:SWO lt) (h:Up lt n i f) (hi:0<i) (r:i<n) (m:lt (f i) (f ((i-1)/2))=yD)
  (d:g i=f ((i-1)/2)) (j:g ((i-1)/2)=f i) (a:∀k,k≠i->k≠(i-1)/2->g k=f k):Up lt n ((i-1)/2) g:=by
 obtain⟨u,o⟩:=zB ((i-1)/2);rw[o]at m d j a⊢;refine⟨fun k b c l=> ?_,fun k b c l q=> ?_⟩
 ·by_cases c1:k=i
  ·subst c1;rw[d,o,j];exact zR0 e m
  ·rw[a k c1 l];by_cases c2:(k-1)/2=u
   ·rw[c2,j];have:=h.ok k b c c1;rw[c2]at this;exact e.ntrans _ _ _ this (zR0 e m)
   ·by_cases c3:(k-1)/2=i
    ·rw[c3,d];have:=h.kid k b c c3 hi;rwa[o]at this
    ·rw[a _ c3 c2];exact h.ok k b c c1
 ·have p:lt (f u) (f ((u-1)/2))=yE:=h.ok u q za za;rw[a ((u-1)/2) za za];by_cases c1:k=i
  ·subst c1;rw[d];exact p
  ·rw[a k c1 za];have:=h.ok k b c c1;rw[l]at this;exact e.ntrans _ _ _ this p
structure Dn (lt:α->α->Bool) (n i:Nat) (f:Nat->α):Prop where
 ok:∀k,0<k->k<n->(k-1)/2≠i->lt (f k) (f ((k-1)/2))=yE
 kid:∀k,0<k->k<n->(k-1)/2=i->0<i->lt (f k) (f ((i-1)/2))=yE
theorem Dn.start (h:Hp lt (n+1) f) (e:∀k,0<k->k<n->g k=f k):Dn lt n 0 g:=by
 refine⟨fun k a b c=> ?_,fun k a b c d=>za⟩;rw[e k a b,e ((k-1)/2) za za];exact h k a za
theorem Dn.stop (h:Dn lt n i f) (c:∀k,0<k->k<n->(k-1)/2=i->lt (f k) (f i)=yE):Hp lt n f:=by
 intro k a b;by_cases e:(k-1)/2=i
 ·rw[e];exact c k a b e
 ·exact h.ok k a b e
theorem Dn.step (q:SWO lt) (h:Dn lt n i f) {c:Nat} (m:0<c) (o:c<n) (j:(c-1)/2=i) (r:lt (f c) (f i)=yD) (s:∀k,0<k->k<n->(k-1)/2=i->lt (f k) (f c)=yE)
  (b:g i=f c) (p:g c=f i) (d:∀k,k≠i->k≠c->g k=f k):Dn lt n c g:=by
 refine⟨fun k a e l=> ?_,fun k a e l t=> ?_⟩
 ·by_cases c1:k=c
  ·subst c1;rw[p,j,b];exact zR0 q r
  ·by_cases c2:(k-1)/2=i
   ·rw[c2,b,d k za c1];exact s k a e c2
   ·rw[d ((k-1)/2) c2 l];by_cases c3:k=i
    ·subst c3;rw[b];exact h.kid c m o j a
    ·rw[d k c3 c1];exact h.ok k a e c2
 ·rw[j,b,d k za za];have:=h.ok k a e za;rwa[l]at this
theorem Hp.min (a:SWO lt) (h:Hp lt n f):∀k,k<n->lt (f k) (f 0)=yE:=by
 intro k
 induction k using Nat.strongRecOn with
 |_ k ih=>
  intro c;by_cases b:k=0
  ·subst b;exact a.irrefl _
  ·exact a.ntrans _ _ _ (h k za c) (ih ((k-1)/2) za za)
end
def lq (a b:Nat×Nat):Bool:=yF (a.1<b.1)||(a.1==b.1&&yF (a.2<b.2))
theorem zNj {a b:Nat×Nat}:lq a b=yD↔a.1<b.1\/(a.1=b.1/\a.2<b.2):=by simp[lq]
theorem zH1 {a b:Nat×Nat}:lq a b=yE↔b.1<a.1\/(a.1=b.1/\b.2<=a.2):=by
 rw[<-Bool.not_eq_true,zNj];omega
theorem zF3:SWO lq:=by
 refine⟨fun x=> ?_,fun x y z a b=> ?_,fun x y z a b=> ?_⟩
 ·rw[zH1];omega
 ·rw[zNj]at*;omega
 ·rw[zH1]at*;omega
def pr (e:Q):Nat×Nat:=(e.w,e.x)
theorem zO0 {l:List (Nat×Nat)} {q:List Q} {a:Q} {r:List Q} {x:Nat×Nat} (f:l.Perm (q.map pr)) (j:q=a::r) (k:q.Pairwise before) (m:x∈l) (i:∀y∈l,lq y x=yE):x=pr a:=by
 subst j;have c:x∈(a::r).map pr:=f.mem_iff.1 m;rw[qQa]at c;rcases qP7.1 c with e|c
 ·exact e
 ·obtain⟨b,h,rfl⟩:=qQf.1 c;have g:=(qQ1.1 k).1 b h;have d:=i (pr a) (f.mem_iff.2 zm);rw[zH1]at d;unfold before at g;simp only[pr]at d;omega
def sw (l:List (Nat×Nat)) (i j:Nat):List (Nat×Nat):=(l.set i (l.getD j (0,0))).set j (l.getD i (0,0))
theorem zWo (l:List (Nat×Nat)) (i j:Nat):kG (sw l i j)=kG l:=by simp[sw]
theorem zTd (l:List (Nat×Nat)) (i j:Nat) (hi:i<kG l) (a:j<kG l):(sw l i j).Perm l:=by
 have:=perm_set_set l i j hi a;unfold sw;rw[qPw,qPw,qPu hi,qPu a];exact this
theorem qEy (l:List (Nat×Nat)) (i j:Nat) (hi:i<kG l) (a:i≠j):(sw l i j).getD i (0,0)=l.getD j (0,0):=by
 unfold sw;rw[qPw,qT5 (qQ2 a),List.getElem?_set_self hi];rfl
theorem qEw (l:List (Nat×Nat)) (i j:Nat) (a:j<kG l):(sw l i j).getD j (0,0)=l.getD i (0,0):=by
 unfold sw;rw[List.getD_eq_getElem?_getD,List.getElem?_set_self (by simpa using a)];rfl
theorem qEx (l:List (Nat×Nat)) (i j k:Nat) (hi:k≠i) (a:k≠j):(sw l i j).getD k (0,0)=l.getD k (0,0):=by
 unfold sw;rw[qPw,qT5 (qQ2 a),qT5 (qQ2 hi),<-qPw]
def at_ (l:List (Nat×Nat)) (k:Nat):Nat×Nat:=l.getD k (0,0)
def zEa (l:List (Nat×Nat)):List (Nat×Nat):=(l.set 0 (l.getD (kG l-1) (0,0))).take (kG l-1)
theorem qBb (l:List (Nat×Nat)):kG (zEa l)=kG l-1:=by simp[zEa]
theorem qE (l:List (Nat×Nat)) (k:Nat) (b:0<k) (a:k<kG l-1):at_ (zEa l) k=at_ l k:=by
 unfold at_ zEa;rw[qPw,qUe a,qT5 za,<-qPw]
theorem zYa:∀l:List (Nat×Nat),l≠[]->l.Perm (at_ l 0::zEa l)
 |[],h=>absurd rfl h
 |[x],_=>by simp[at_,zEa]
 |x::y::r,_=>by
  have e:zEa (x::y::r)=(y::r).getLast zm::(y::r).dropLast:=by
   unfold zEa;rw[qPy,show(x::y::r).length-1=kG r+1 by simp,qSk,List.dropLast_eq_take];congr 1;rw[qPw,List.getLast_eq_getElem];simp
  rw[e];refine List.Perm.cons _ ?_;have a:=List.dropLast_concat_getLast (l:=y::r) zm
  conv=>lhs;rw[<-a]
  exact List.perm_append_comm
def Sat (up:Nat->Nat) (q:List Q) (n:Nat) (D:Nat->Nat):Prop:=∀x,x<n->x∉q.map Q.x->D x=D (up x)+1
def Good (up:Nat->Nat) (q:List Q) (n:Nat):Prop:=∀D,Sat up q n D->∀e∈q,∀p∈e.t.leaves,D p.1=D e.x+p.2
theorem Good.start {up:Nat->Nat} {q:List Q} {n:Nat} (h:∀e∈q,e.t= .leaf e.x):Good up q n:=by
 intro D _ e b p a;rw[h e b]at a;simp[Tr.leaves]at a;subst a;rfl
theorem Good.join {up d:Nat->Nat} {a b:Q} {r:List Q} {n:Nat} (h:Good up (a::b::r) n) (m:∀e∈a::b::r,e.x<n) (hd:((a::b::r).map Q.x).Nodup)
  (w:d a.x=n) (y:d b.x=n) (z:∀x,x≠a.x->x≠b.x->d x=up x):Good d (ins ⟨a.w+b.w,n,.node a.t b.t⟩ r) (n+1):=by
 intro D l;have o:=zBh ⟨a.w+b.w,n,.node a.t b.t⟩ r;have k:∀x,x∈(ins ⟨a.w+b.w,n,.node a.t b.t⟩ r).map Q.x↔x=n\/x∈r.map Q.x:=by
  intro x;rw[(o.map Q.x).mem_iff,qQa,qP7]
 simp only[qQa,qSz,qP7,not_or]at hd;obtain⟨⟨B,q⟩,s,F⟩:=hd;have la:=m a zm;have lb:=m b zm;have s1:Sat up (a::b::r) n D:=by
  intro x G f;simp only[qQa,qP7,not_or]at f;have:=l x za (by rw[k];rintro(e|e);omega;exact f.2.2 e);rwa[z x f.1 f.2.1]at this
 have t:D a.x=D n+1:=by
  have:=l a.x za (by rw[k];rintro(e|e);omega;exact q e);rwa[w]at this
 have u:D b.x=D n+1:=by
  have:=l b.x za (by rw[k];rintro(e|e);omega;exact s e);rwa[y]at this
 intro e j p i;rcases qP7.1 (o.mem_iff.1 j)with rfl|j
 ·simp only[Tr.leaves,qQf,qSi]at i;obtain⟨g,c,rfl⟩:=i;show D g.1=D n+(g.2+1);rcases c with c|c
  ·have:=h D s1 a zm g c;rw[this,t];omega
  ·have:=h D s1 b zm g c;rw[this,u];omega
 ·exact h D s1 e (by simp[j]) p i
theorem qA1 {up:Nat->Nat} {e:Q} {n:Nat} {D:Nat->Nat} (h:Good up [e] (n+1)) (f:e.x=n) (a:D n=0) (c:∀x,x<n->D x=D (up x)+1):∀p∈e.t.leaves,D p.1=p.2:=by
 intro p d;have:=h D (fun x g b=>c x (by simp at b;omega)) e zm p d;rw[this,f,a];omega
theorem qDd {ws:List Nat} {D:Nat->Nat} (e:1<=kG ws) (d:∀w∈ws,1<=w) (f:∀p∈(tree ws).leaves,D p.1=p.2) (i:Nat) (hi:i<kG ws):(lens ws)[i]? =qw (D i):=by
 have b:=(zN9 ws e d).1;have a:i∈(tree ws).names:=b.mem_iff.2 (qQm.2 hi);unfold Tr.names at a;obtain⟨p,c,rfl⟩:=qQf.1 a;unfold lens;rw[qP2,qSe hi,qRs,zKs (b.nodup_iff.2 qTw) c,f p c]
end Wg
end Go.Proofs.YtppnakkaljbmbaaGreatDoor
