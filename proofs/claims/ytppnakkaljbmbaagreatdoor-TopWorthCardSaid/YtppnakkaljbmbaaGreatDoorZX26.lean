/- Steps of a proof; no condition beyond what each states. -/
import Derived.Test.YtppnakkaljbmbaaGreatDoorZX00
import Derived.Test.YtppnakkaljbmbaaGreatDoorZX25
set_option linter.unusedVariables false
set_option linter.unusedSimpArgs false
set_option maxRecDepth 100000
set_option maxHeartbeats 8000000
open List renaming length->kG
open Go.Proofs.YtppnakkaljbmbaaGreatDoor.Kit renaming Own->yg,zAg->yh,Own'->yj,Rd->xJ,Lay->xO
open Go.Proofs.YtppnakkaljbmbaaGreatDoor.Rle renaming bs->yw
open Go.Proofs.YtppnakkaljbmbaaGreatDoor.Crc renaming U->xD
open Go.RowKit
open Go.Proofs.Tryz
open Go.Value renaming int->qV,string->qW,slice->qX,pointer->qY,tuple->qZ,bool->qc
open Go.IntKind renaming i64->qj
open Go.Obj renaming cells->qm
open Go.Ending renaming returned->qp
open Option renaming some->qw,none->qx
open Go renaming World->qy,Value->qz,TypeId->yA,Addr->yB,Calls->yC
open Bool renaming true->yD,false->yE
open Decidable renaming decide->yF
open Go.Proofs.Tryz renaming prog->yG
open Go.RowKit renaming Hid->yH,Below->yI
open List renaming range->yK,replicate->yL
open Go.World renaming cell?->yM
open Go.RowKit.Below renaming refl->yN
open And renaming intro->yO
namespace Go.Proofs.YtppnakkaljbmbaaGreatDoor
namespace Sm
open Hf Bt Zr Front Wg Ch Sq
theorem zJw (a:Nat) (b:1<=a) (c:a<=9) (w:qy):yC yG 49 #[qV qj (a:Int)] w fun e w'=>e=qp (qc yD)/\w'=w:=by
 have d:(1:Int)<=(a:Int):=za
 have f:(a:Int)<=9:=za
 go_enter func49,ntmps49;go_wp2;go_ret;exact⟨rfl,rfl⟩
theorem zY (s:ByteArray) (v:Int) (w:qy):
  yC yG 52 #[qW s,qV qj v] w fun e w'=>e=qp (.func (.func 133) #[] #[qY (qw ⟨w.heap.size,0,qx⟩),qY (qw ⟨w.heap.size+1,0,qx⟩)])/\w'=(w.alloc (qm #[qW s] zAk)).alloc (qm #[qV qj v] 3):=by
 have b:∀(fn:Fn) (first a:Array qz) (w:qy),(Instr.makeFunc fn first a).run yG w= .ok (.func fn first a) w:=fun _ _ _ _=>rfl;go_enter func52,ntmps52;go_wp2;go_ret;exact⟨rfl,rfl⟩
theorem zS5 (b d a:Nat) (x:T) (q:kG x<=100000) (k:1<=a) (o:a<=9) (hne:d≠b) (w:qy) (g:Boxed w b zAk (qW (yw x))) (f:Boxed w d 3 (qV qj (a:Int))) (j:kG (pcs (40*a) x)<=10000):
  yC yG 51 #[.func (.func 133) #[] #[qY (qw ⟨b,0,qx⟩),qY (qw ⟨d,0,qx⟩)]] w fun e w'=>
   ∃p c,e=qp (qX p (kG (pcs (40*a) x)) c)/\yg w' w.heap.size zAk p (kG (pcs (40*a) x)) c ((pcs (40*a) x).map zC7)/\RV b w w':=by
 have H:=zH (zVq b d a x q k o hne w g f j);obtain⟨S,h⟩:=zB (pcs (40*a) x);rw[h]at H⊢;obtain⟨m,i⟩:=zB (kG S);rw[i]at H⊢;clear g f j h i;go_enter func51,ntmps51;go_wp2_with fail;(with_reducible refine H.out.mono ?_);rintro e r ⟨p,c,rfl,l,n⟩;go_wp2;go_ret;exact⟨p,c,rfl,l,n⟩
theorem zZ5 (q:Nat) (s:ByteArray) (x:T) (N:s.data.toList=x) (Z:kG x<=500) (F:1<=q) (G:q<=9) (w:qy):
  yC yG 9 #[qW s,qV qj (q:Int)] w fun e w'=>e=qp (qZ #[qW (zCt q (pcs (40*q) x)),qV qj 0])/\yI w.heap.size w w':=by
 obtain⟨B,y⟩:=zB w.heap.size;obtain⟨w2,a⟩:=zB ((w.alloc (qm #[qW s] zAk)).alloc (qm #[qV qj (q:Int)] 3));have Y:w2.heap.size=B+2:=by rw[<-a,zA,zA,y]
 have r:yI B w w2:=by rw[<-a,<-y];exact((yN _ _).alloc (qPq _) _).alloc (by rw[zA];omega) _
 have m:Boxed w2 B zAk (qW (yw x)):=by
  rw[<-N,Rle.zJ5,<-a,<-y];exact(Lib.alloc_old _ _ _ (by rw[zA];omega)).trans (zAh w _)
 have k:Boxed w2 (B+1) 3 (qV qj (q:Int)):=by
  rw[<-a,show B+1=(w.alloc (qm #[qW s] zAk)).heap.size by rw[zA,y]];exact zAh _ _
 have d:=zOh (40*q) za x;have b:=zJq (40*q) za x;have z:=zH (zS5 B (B+1) q x za F G za w2 m k za);obtain⟨S,L⟩:=zB (pcs (40*q) x);rw[L]at z d b⊢;obtain⟨n,H⟩:=zB (kG S);rw[H]at z d;have i:=zH (zY s (q:Int) w);rw[y,a]at i;obtain⟨l,f⟩:=yQ (zJw q F G w) (fun(p:Option yB) (c:Nat) (j:n<=c) (W:qy) (X:Kit.Src W p (S.map zC7))=>zV5 q n c p S W F G H za j X b);obtain⟨t,M⟩:=zB (zCt q S);rw[M]at f⊢;have u:=zH r;rw[y];clear a m k b L H M N r;go_enter func9,ntmps9;go_wp2_with fail;(with_reducible refine l.out.mono ?_);rintro e w1 ⟨rfl,rfl⟩;go_wp2_with fail;(with_reducible refine i.out.mono ?_);rintro e w3 ⟨rfl,rfl⟩;go_wp2_with fail;(with_reducible refine z.out.mono ?_);rintro e O ⟨p,c,rfl,I,g⟩;have j:n<=c:=by
  rcases qQy n with h|h
  ·omega
  ·obtain⟨_,_,_,_,h,_⟩:=I.at_ h;exact h
 obtain⟨K,P⟩:=yQ (f.out p c j O I.src) (u.out.trans g.below);have V:=yP (B<=O.heap.size) (by have:=g.below.size;omega);clear I g z f i l;go_wp2_with fail;(with_reducible refine K.out.mono ?_);rintro e w5 ⟨rfl,o⟩;have R:=zH (P.out.trans (o.mono V.out));clear o K;go_wp2;go_ret2;exact⟨rfl,R.out⟩
end Sm
namespace Ix2
open Bt Zr Wg Ch St Tn Sm
open Front (ival)
theorem qKb {α:Type} {L:xO α} {ty e:yA} {bytes:Nat} (o:Kit.zVx yG ty e L.k bytes) (i:bytes<=1000) {w:qy} {B:Nat} {a:Option yB} {n c:Nat} {ls:List α} (h:yj L w B e a n c ls) (x:α) (m:B<=w.heap.size) (s:n<=100000) {z:Nat} (r:w.heap.size=z):
  ∃a' c' w',(Builtin.append_ #[ty,ty] ty #[qX a n c,qX (qw ⟨z,0,qx⟩) 1 1]).run yG (w.alloc (qm (L.cl x).toArray e))= .ok (qX a' (n+1) c') w'/\
   yj L w' B e a' (n+1) c' (ls++[x])/\yI B w w'/\(∀b,b<w.heap.size->(Value.slice a n c).ownBlock≠qw b->w'.heap[b]? =w.heap[b]?):=by
 subst r;have q:xJ L (w.alloc (qm (L.cl x).toArray e)) (qw ⟨w.heap.size,0,qx⟩) [x]:=Kit.zFo w x e;have g:yj L (w.alloc (qm (L.cl x).toArray e)) B e a n c ls:=h.alloc _;have d:(n+1)*bytes<=140737488355328:=qP4 (Nat.mul_le_mul (show n+1<=100001 by omega) i) z8;obtain⟨a',c',w',j,l,f⟩:=g.app (ty:=ty) o (qw ⟨w.heap.size,0,qx⟩) 1 1 [x] q rfl (fun h=>by cases h) (by unfold maxLen;omega) d (by rw[zA];omega);exact⟨a',c',w',j,l,((yN _ _).alloc m _).trans (Kit.zAq f (by rw[zA];omega) (fun k p=>g.block k p)),fun b d hne=>(f.block b (by rw[zA];omega) (fun h=>hne h.symm)).trans (Lib.alloc_old _ _ _ d)⟩
structure Bk4 where
 s:ByteArray
 u:BitVec 32
 i:Nat
 j:Nat
def LBk:xO Bk4 where
 k:=4
 pos:=za
 cl x:=[qW x.s,zAx x.u,qV qj (x.i:Int),qV qj (x.j:Int)]
 len _:=rfl
 one m:=by simp[Value.oneCell',zAx]
def qJj (a:List T) (k:Nat):Bk4:=⟨yw (a.getD k []),Crc.sum (a.getD k []),pos a k,pos a (k+1)⟩
abbrev TBk:yA:=105
abbrev TBs:yA:=100
theorem qO3:Kit.zVx yG TBs TBk LBk.k 40:=⟨underlying100,⟨.agg #[qW ⟨#[]⟩,qV .u32 0,qV qj 0,qV qj 0],zf,rfl⟩⟩
theorem qMc (y n:Nat) (q:List T) (a:ByteArray) (A:Arc y q a n) (w:qy):
  yC yG 53 #[qW a] w fun e w'=>∃p c,e=qp (qZ #[qX p n c,qV qj 0])/\yj LBk w' w.heap.size TBk p n c ((yK n).map (qJj q))/\yI w.heap.size w w':=by
 have f:=zH (zYp y n q a A w);have hn:=A.many;obtain⟨B,hB⟩:=zB w.heap.size;rw[hB]at f⊢;have HB:=zH hB;clear A hB;go_enter func53,ntmps53;go_wp2_with fail;(with_reducible refine f.out.mono ?_);rintro e w1 ⟨p,c,rfl,ho,hb⟩;have a0:n<=c\/n=0:=by
  rcases qQy n with h|h
  ·exact .inr h
  ·obtain⟨_,_,_,_,h⟩:=ho.at_ h;exact .inl h
 obtain⟨E,hE⟩:=zB w1.heap.size;obtain⟨HE,K,L⟩:=yR hE ho.rd hb;have F:B<=E:=by have:=hb.size;have:=HB.out;omega
 clear ho hb hE f;go_wp2;go_loopw [2,14] (fun ov iv wr=>∃(k c':Nat) (P:Option yB),k<=n/\iv=qV qj k/\ov=qX P k c'/\yH (yj LBk wr E TBk P k c' ((yK k).map (qJj q)))/\yH (yI E w1 wr)) (fun _ iv _=>n-(intOf iv).toNat)
 case atStart=>exact⟨0,0,qx,qQq _,rfl,rfl,zH (Kit.Own'.start _ _ _),zH (yN _ _)⟩
 case round=>
  obtain⟨k,c',P,hk,rfl,rfl,d,b⟩:=hrel;by_cases H:k<n
  ·obtain⟨g,off,rfl,V,N,X,Y,Z⟩:=rd5 (K.out.below b.out HE.out.symm) k _ (zZ3 y n q k H);obtain⟨s,u,i,j,O⟩:∃s u i j,qJj q k=⟨s,u,i,j⟩:=⟨_,_,_,_,rfl⟩;obtain⟨r,hr⟩:=zB (40*y);have hp:zD2 y q k=⟨s,u,i,j,r⟩:=by rw[<-hr];unfold qJj at O;unfold zD2;injection O with h1 h2 h3 h4;rw[h1,h2,h3,h4]
   rw[hp]at V N X Y Z;simp only at V N X Y Z;have a1:n<=c:=za
   obtain⟨W,z⟩:=zB (wr.alloc (qm #[qW s,zAx u,qV qj (i:Int),qV qj (j:Int),qV qj (r:Int)] TPt));have M:E<=wr.heap.size:=by have:=b.out.size;have:=HE.out;omega
   have x:W.heap.size=wr.heap.size+1:=by rw[<-z,zA]
   have t:yI E w1 W:=by rw[<-z];exact b.out.alloc M _
   obtain⟨p3,c3,w3,l,o,G,_⟩:=qKb qO3 za (w:=W) (by rw[<-z];exact d.out.alloc _) ⟨s,u,i,j⟩ za za x;have S:=yP (yj LBk w3 E TBk p3 (k+1) c3 ((yK (k+1)).map (qJj q))) (by rw[qQu,qQd];simp only[qQa,qSq];rw[O];exact o);have R:=zH (t.trans G);have m:(wr.alloc (qm #[qW s,qV .u32 (xD u),qV qj (i:Int),qV qj (j:Int),qV qj (r:Int)] TPt)).alloc (qm #[qW s,qV .u32 (xD u),qV qj (i:Int),qV qj (j:Int)] TBk)=W.alloc (qm (LBk.cl ⟨s,u,i,j⟩).toArray TBk):=by rw[<-z];rfl
   rw[<-m]at l;unfold zAx at N;have I:=zH l;clear d b O hp z x t o G m l hr;go_wp2_with (at_builtin;refine Kit.zAr rfl (.tmp 18) (.tmp 21) TBs rfl rfl rfl I.out ?_);clear V N X Y Z;go_roundw
   case rel=>exact⟨k+1,c3,p3,za,by go_num,rfl,S,R⟩
   case measure=>simp only[intOf];omega
  ·obtain rfl:k=n:=za
   obtain⟨S,R⟩:=yQ d.out b.out;clear d b;go_wp2;go_ret2;refine⟨P,c',rfl,S.out.base F,L.out.trans (R.out.mono F)⟩
theorem qMk (q n:Nat) (O:List T) (a:ByteArray) (A:Arc q O a n) (w:qy):
  yC yG 54 #[qW a] w fun e w'=>∃p c,e=qp (qZ #[qX p n c,qV qj 0])/\yg w' w.heap.size 3 p n c ((yL n (40*q)).map ival)/\yI w.heap.size w w':=by
 have l:=zH (zYp q n O a A w);have hn:=A.many;obtain⟨B,Z⟩:=zB w.heap.size;rw[Z]at l⊢;have HB:=zH Z;clear A Z;go_enter func54,ntmps54;go_wp2_with fail;(with_reducible refine l.out.mono ?_);rintro e w1 ⟨p,c,rfl,ho,hb⟩;have a0:n<=c\/n=0:=by
  rcases qQy n with h|h
  ·exact .inr h
  ·obtain⟨_,_,_,_,h⟩:=ho.at_ h;exact .inl h
 obtain⟨E,hE⟩:=zB w1.heap.size;obtain⟨HE,I,K⟩:=yR hE ho.rd hb;have x:B<=E:=by have:=hb.size;have:=HB.out;omega
 clear ho hb hE l;go_wp2;go_loopw [2,14] (fun ov iv wr=>∃(k c':Nat) (N:Option yB),k<=n/\iv=qV qj k/\ov=qX N k c'/\yH (yg wr E 3 N k c' ((yL k (40*q)).map ival))/\yH (yI E w1 wr)) (fun _ iv _=>n-(intOf iv).toNat)
 case atStart=>exact⟨0,0,qx,qQq _,rfl,rfl,zH (Kit.Own.start _ _ _),zH (yN _ _)⟩
 case round=>
  obtain⟨k,c',N,hk,rfl,rfl,f,b⟩:=hrel;by_cases G:k<n
  ·obtain⟨g,off,rfl,S,z,V,X,Y⟩:=rd5 (I.out.below b.out HE.out.symm) k _ (zZ3 q n O k G);obtain⟨r,M⟩:=zB (40*q);obtain⟨s,u,i,j,hp⟩:∃s u i j,zD2 q O k=⟨s,u,i,j,r⟩:=by rw[<-M];exact⟨_,_,_,_,rfl⟩
   rw[hp]at S z V X Y;simp only at S z V X Y;have a1:n<=c:=za
   obtain⟨W,y⟩:=zB (wr.alloc (qm #[qW s,zAx u,qV qj (i:Int),qV qj (j:Int),qV qj (r:Int)] TPt));have L:E<=wr.heap.size:=by have:=b.out.size;have:=HE.out;omega
   have t:W.heap.size=wr.heap.size+1:=by rw[<-y,zA]
   have o:yI E w1 W:=by rw[<-y];exact b.out.alloc L _
   obtain⟨p3,c3,w3,d,m,F⟩:=zMb (w:=W) (by rw[<-y];exact f.out.alloc _) r za za;rw[t]at d;have R:=yP (yg w3 E 3 p3 (k+1) c3 ((yL (k+1) (40*q)).map ival)) (by rw[qUc,M];rw[M]at m;exact m);have P:=zH (o.trans F);rw[<-y]at d;unfold zAx at z d;have H:=zH d;clear f b hp y t o m F d M;go_wp2_with (at_builtin;refine Kit.zAr rfl (.tmp 18) (.tmp 21) 23 rfl rfl rfl H.out ?_);clear S z V X Y;go_roundw
   case rel=>exact⟨k+1,c3,p3,za,by go_num,rfl,R,P⟩
   case measure=>simp only[intOf];omega
  ·obtain rfl:k=n:=za
   obtain⟨R,P⟩:=yQ f.out b.out;clear f b;go_wp2;go_ret2;refine⟨N,c',rfl,R.out.base x,K.out.trans (P.out.mono x)⟩
end Ix2
namespace Ix2
open Bt Zr Wg Ch St Tn Sm
open Front (ival)
variable {w:qy} {n:Nat}
structure En where
 i:Nat
 r:Nat
 f:Nat
 l:Nat
 u:BitVec 32
def LEn:xO En where
 k:=5
 pos:=za
 cl x:=[qV qj (x.i:Int),qV qj (x.r:Int),qV qj (x.f:Int),qV qj (x.l:Int),zAx x.u]
 len _:=rfl
 one m:=by simp[Value.oneCell',zAx]
abbrev TEn:yA:=107
abbrev TEs:yA:=30
theorem qM:Kit.zVx yG TEs TEn LEn.k 40:=⟨underlying30,⟨.agg #[qV qj 0,qV qj 0,qV qj 0,qV qj 0,qV .u32 0],zf,rfl⟩⟩
def qH8 (a:List T) (k:Nat):Nat:=(a.take k).flatten.length
theorem qJ2 (a:List T):qH8 a 0=0:=by simp[qH8]
theorem qI2 (a:List T) (k:Nat) (h:k<kG a):qH8 a (k+1)=qH8 a k+kG (a.getD k []):=by
 unfold qH8;rw[qQo h,qRz,qPx,qPw,qPu h];simp
theorem qJb (a:List T) (k:Nat):qH8 a k<=kG a.flatten:=by
 have:=qPs List.length (qPs List.flatten (qR9 k a));rw[qRz,qPx]at this;unfold qH8;omega
theorem qK8 (a:List T):qH8 a (kG a)=kG a.flatten:=by unfold qH8;rw[qTg]
def qIi (b:Nat) (a:List T) (k:Nat):En:=⟨pos a k,40*b,qH8 a k,kG (a.getD k []),Crc.sum (a.getD k [])⟩
def ents (a:Nat) (b:List T) (n:Nat):List En:=(yK n).map (qIi a b)
theorem qLc (a:Nat) (b:List T) (n:Nat):kG (ents a b n)=n:=by simp[ents]
theorem qIx (a:Nat) (b:List T) (n k:Nat) (c:k<n):(ents a b n)[k]? =qw (qIi a b k):=by
 unfold ents;rw[qP2,qSe c];rfl
theorem qJ7 (a:Nat) (b:List T) (n:Nat):ents a b (n+1)=ents a b n++[qIi a b n]:=by
 unfold ents;rw[qQu,qQd];rfl
theorem Own'.lt {α:Type} {L:xO α} {B:Nat} {e:yA} {a:Option yB} {c:Nat} {l:List α} (h:yj L w B e a n c l):∀k,(Value.slice a n c).ownBlock=qw k->k<w.heap.size:=fun k b=>(World.ownsRow.lt h k b).2
theorem qIt {o:Obj} {p:yB} {v:qz} (h:w.cell? p=qw v):(w.alloc o).cell? p=qw v:=(((yN w.heap.size w).alloc (qPq _) o).cell (qQk h)).trans h
theorem qOi {P:Program} {ρ:Operand->qz} {o:Oper} {w':qy} {m k:Nat} (h:(execOp ρ o).run P w= .ok (.value (qX (qw ⟨w.heap.size,0,qx⟩) m k)) w') (a:w.heap.size=n):(execOp ρ o).run P w= .ok (.value (qX (qw ⟨n,0,qx⟩) m k)) w':=by
 subst a;exact h
theorem rd4 {p:Option yB} {l:List Bk4} (h:xJ LBk w p l) (k:Nat) (x:Bk4) (d:l[k]? =qw x):∃g a,p=qw ⟨g,a,qx⟩/\w.cell? ⟨g,a+k*4,qx⟩=qw (qW x.s)/\w.cell? ⟨g,a+k*4+1,qx⟩=qw (zAx x.u)/\
  w.cell? ⟨g,a+k*4+2,qx⟩=qw (qV qj (x.i:Int))/\w.cell? ⟨g,a+k*4+3,qx⟩=qw (qV qj (x.j:Int)):=by
 obtain⟨g,a,c,b⟩:=h k x d;exact⟨g,a,c,b 0 z8,b 1 z8,b 2 z8,b 3 z8⟩
theorem qOr (a:List T) (n k:Nat) (b:k<n):((yK n).map (qJj a))[k]? =qw (qJj a k):=by
 rw[qP2,qSe b];rfl
theorem qM7 (z n:Nat) (q:List T) (a:ByteArray) (A:Arc z q a n) (hl:kG q.flatten<=1000000) (w:qy):
  yC yG 11 #[qW a] w fun e w'=>∃p c,e=qp (qZ #[qX p n c,qV qj 0])/\yj LEn w' w.heap.size TEn p n c (ents z q n)/\yI w.heap.size w w':=by
 obtain⟨F,L⟩:=yQ (qMc z n q a A w) (fun w=>qMk z n q a A w);have hn:=A.many;have HN:=zH A.len;obtain⟨B,hB⟩:=zB w.heap.size;rw[hB]at F⊢;have HB:=zH hB;clear A hB;go_enter func11,ntmps11;go_wp2_with fail;(with_reducible refine F.out.mono ?_);rintro e w1 ⟨p,c,rfl,ho,hb⟩;have O1:=zH ho;have B1:=yP (yI B w w1/\B<=w1.heap.size) ⟨hb,by have:=hb.size;have:=HB.out;omega⟩;clear ho hb F;go_wp2_with fail;(with_reducible refine(L.out _).mono ?_);rintro e w2 ⟨p2,c2,rfl,X,o⟩;have a5:n<=c\/n=0:=by
  rcases qQy n with h|h
  ·exact .inr h
  ·obtain⟨_,_,_,_,h⟩:=O1.out.at_ h;exact .inl h
 obtain⟨O2,P2⟩:=yQ (O1.out.below o (qPq _)).rd X;have B2:=yP (yI B w w2/\B<=w2.heap.size) ⟨B1.out.1.trans (o.mono B1.out.2),qP4 B1.out.2 o.size⟩;obtain⟨E,hE⟩:=zB w2.heap.size;have HE:=zH hE;clear X o L O1 B1 hE;go_wp2;go_loopw [2,7,25] (fun ov fv iv wr=>∃(k f c':Nat) (p':Option yB),k<=n/\f<=1000000/\iv=qV qj k/\fv=qV qj f/\ov=qX p' k c'/\yH (qH8 q k=f)/\yH (yj LEn wr E TEn p' k c' (ents z q k))/\yH (yI E w2 wr)) (fun _ _ iv _=>n-(intOf iv).toNat)
 case atStart=>exact⟨0,0,0,qx,qQq _,za,rfl,rfl,rfl,zH (qJ2 q),zH (Kit.Own'.start _ _ _),zH (yN _ _)⟩
 case round=>
  obtain⟨k,f,c',p',hk,a7,rfl,rfl,rfl,hf,l,b⟩:=hrel;by_cases m:k<n
  ·obtain⟨g,off,rfl,e0,e1,e2,e3⟩:=rd4 (O2.out.below b.out HE.out.symm) k _ (qOr q n k m);obtain⟨s,u,i,j,hx⟩:∃s u i j,qJj q k=⟨s,u,i,j⟩:=⟨_,_,_,_,rfl⟩;obtain⟨r,hr⟩:=zB (40*z);have P:k<kG q:=by rw[HN.out];exact m
   have H:s.size=kG (q.getD k []):=by unfold qJj at hx;injection hx with h1;rw[<-h1,Rle.zCh]
   have K:qH8 q (k+1)=f+s.size:=by rw[qI2 q k P,hf.out,H]
   have a8:f+s.size<=1000000:=by rw[<-K];exact qP4 (qJb q (k+1)) hl
   have hp:qIi z q k=⟨i,r,f,s.size,u⟩:=by rw[<-hr];unfold qJj at hx;unfold qIi;injection hx with h1 h2 h3 h4;rw[h3,h2,hf.out,H]
   obtain⟨g2,rfl,_,_,a9,x2,_⟩:=(P2.out.below b.out (Nat.le_of_eq HE.out)).at_ za;have xr:=x2 k m;rw[qP2,List.getElem?_replicate,qPr m,hr]at xr;rw[hx]at e0 e1 e2 e3;simp only at e0 e1 e2 e3;have a6:n<=c:=za
   obtain⟨W,hW⟩:=zB (wr.alloc (qm #[qW s,zAx u,qV qj (i:Int),qV qj (j:Int)] TBk));have a3:E<=wr.heap.size:=by have:=b.out.size;have:=HE.out;omega
   obtain⟨Z,hZ⟩:=zB wr.heap.size;have G:W.drew.heap.size=Z+1:=by rw[<-hW];show(wr.alloc _).heap.size=_;rw[zA,hZ]
   have S:yI E w2 W.drew:=by rw[<-hW];exact(b.out.alloc a3 _).drew
   have d:W.drew.heap[Z]? =qw (qm #[qW s,zAx u,qV qj (i:Int),qV qj (j:Int)] TBk):=by rw[<-hW,<-hZ];exact zAh wr _
   have L0:=yP ((loadVar 9 ⟨Z,0,qx⟩).run yG W.drew= .ok (qW s) W.drew) (yh (by simp[yM,d]) zf zf);have L1:=yP ((loadVar 65 ⟨Z,1,qx⟩).run yG W.drew= .ok (zAx u) W.drew) (yh (by simp[yM,d]) zf zf);have L2:=yP ((loadVar 3 ⟨Z,2,qx⟩).run yG W.drew= .ok (qV qj (i:Int)) W.drew) (yh (by simp[yM,d]) zf zf);have LR:=yP ((loadVar 3 ⟨g2,k,qx⟩).run yG W.drew= .ok (qV qj (r:Int)) W.drew) (yh (by show W.cell? _=_;rw[<-hW];exact qIt xr) zf zf);have I:yj LEn W.drew E TEn p' k c' (ents z q k):=by rw[<-hW];exact(l.out.alloc _).below (yN _ _).drew (qPq _)
   obtain⟨p3,c3,w3,V,R,Y,O⟩:=qKb qM za I ⟨i,r,f,s.size,u⟩ za za G;have O3:=yP (yj LEn w3 E TEn p3 (k+1) c3 (ents z q (k+1))) (by rw[qJ7,hp];exact R);obtain⟨B3,a0,a4,HW,HZ,a1⟩:=yU (S.trans Y) V K hW hZ G;have N:w3.heap[Z]? =qw (qm #[qW s,zAx u,qV qj (i:Int),qV qj (j:Int)] TBk):=by
    rw[O Z za (fun h=>by have:=Own'.lt l.out Z h;omega)];exact d
   have y0:w3.cell? ⟨Z,0,qx⟩=qw (qW s):=by simp[yM,N]
   have a2:=zH y0;unfold zAx at e1 HW;clear l b hx hp hW G S R Y V hr I xr x2 K P H hf d hZ O N y0;go_wp2;clear e0 e1 e2 e3;rw[show wr.alloc (qm #[qW s,qV .u32 (xD u),qV qj (i:Int),qV qj (j:Int)] TBk)=W from HW.out,HZ.out];refine zS [] (fun _=>True) [0,0,2,0,0,24,32,0,0,256,512,0,2048,5316,8192,16385,65535] 17<|zu 0 30 (qX p' k c')<|zp [1,2,3,4,5,6,7,8,9,10,11,12,13]<|zk 31 (zP Z 2)<|zt 32 (zI i) (zl 3 31 (L2.out))<|zk 33 (qX (qw ⟨g2,0,qx⟩) n c2)<|zk 34 (zI k)<|zt 35 (zP g2 k) (Kit.zBo (t:=23) (x:=(.tmp 33)) (y:=(.tmp 34)) (g:=g2) (n:=n) (c:=c2) (k:=k) rfl zf zf za underlying23 (fun _=>sizeOf3 _) _)<|zt 36 (zI r) (zl 3 35 (LR.out))<|zk 37 (zI f)<|zk 38 (zP Z 0)<|zt 39 (qW s) (zl 9 38 (L0.out))<|zk 40 (qV qj (s.size:Int))<|zk 41 (zP Z 1)<|zt 42 (zAx u) (zl 65 41 (L1.out))<|zk 43 (.agg #[qV qj (i:Int),qV qj (r:Int),qV qj (f:Int),qV qj (s.size:Int),zAx u])<|zn<| ?_
   refine Kit.zLe (w':=W.drew.alloc (qm (LEn.cl ⟨i,r,f,s.size,u⟩).toArray TEn)) 14 (qw 44) (qX (qw ⟨Z+1,0,qx⟩) 1 1) 32767 zf zf rfl rfl zf (qOi zf a1.out) (.inr (.inr trivial)) ?_;refine zo 15 45 (qX p3 (k+1) c3) (Kit.zHb (.tmp 30) (.tmp 44) TEs rfl zf zf a0.out) (.inr (.inr trivial))<|zp [16]<|zk 2 (qX p3 (k+1) c3)<|zn<|zE<| ?_
   simp only[zP,zI,Act.put,qPz,qPy,qP0];have y0:=a2.out;go_wp2;go_roundw
   case rel=>exact⟨k+1,f+s.size,c3,p3,za,za,by go_num,by go_num,rfl,a4,O3,B3⟩
   case measure=>simp only[intOf];omega
  ·obtain rfl:k=n:=za
   obtain⟨O3,B3⟩:=yQ l.out b.out;have M:B<=E:=by have:=B2.out.2;have:=HE.out;omega
   clear l b;go_wp2;go_ret2;refine⟨p',c',rfl,O3.out.base M,B2.out.1.trans (B3.out.mono M)⟩
end Ix2
namespace Ix2
open Bt Ch St Tn Bk Sm
open Front (ival)
theorem rdE {w:qy} {p:Option yB} {l:List En} (h:xJ LEn w p l) (k:Nat) (x:En) (d:l[k]? =qw x):∃g a,p=qw ⟨g,a,qx⟩/\w.cell? ⟨g,a+k*5,qx⟩=qw (qV qj (x.i:Int))/\w.cell? ⟨g,a+k*5+1,qx⟩=qw (qV qj (x.r:Int))/\
  w.cell? ⟨g,a+k*5+2,qx⟩=qw (qV qj (x.f:Int))/\w.cell? ⟨g,a+k*5+3,qx⟩=qw (qV qj (x.l:Int))/\w.cell? ⟨g,a+k*5+4,qx⟩=qw (zAx x.u):=by
 obtain⟨g,a,c,b⟩:=h k x d;exact⟨g,a,c,b 0 z8,b 1 z8,b 2 z8,b 3 z8,b 4 z8⟩
structure Ps (lev:Nat) (ps:List T) (n:Nat):Prop where
 len:kG ps=n
 lo:1<=lev
 hi:lev<=9
 many:n<=1000
 each:∀k,k<n->0<kG (ps.getD k [])
 all:kG ps.flatten<=10000
 up:∀k,k<n->pos ps k<pos ps (k+1)
 far:∀k,k<=n->pos ps k<=100000000
theorem Ps.one {b n:Nat} {a:List T} (h:Ps b a n) {k:Nat} (c:k<n):qH8 a (k+1)=qH8 a k+kG (a.getD k [])/\qH8 a (k+1)<=10000:=
 ⟨qI2 a k (by rw[h.len];exact c),qP4 (qJb a (k+1)) h.all⟩
theorem zGf (z n:Nat) (q:List T) (P:Ps z q n) (p:Option yB) (c:Nat) (w:qy) (h:xJ LEn w p (ents z q n)) (hc:n<=c):
  yC yG 55 #[qX p n c] w fun e w'=>e=qp (qc yD)/\yI w.heap.size w w':=by
 obtain⟨N,F⟩:=yQ P h;have hn:=P.many;have h1:=P.lo;have h9:=P.hi;clear P h;go_enter func55,ntmps55;go_wp2;refine wp_scope_straight ?_;go_wp2;refine wp_label ?_;go_wp2;go_loopw [3,4,5,10] (fun fv av rv iv wr=>∃(k f a:Nat),rv=qc yD/\k<=n/\f<=10000/\a<=100000000/\iv=qV qj k/\fv=qV qj f/\av=qV qj a/\yH (qH8 q k=f)/\yH (a<pos q k)/\yH (yI w.heap.size w wr)) (fun _ _ _ iv _=>n-(intOf iv).toNat)
 case atStart=>exact⟨0,0,31,rfl,qQq _,za,za,rfl,rfl,rfl,zH (qJ2 q),zH (by rw[zZu];omega),zH (yN _ _)⟩
 case round=>
  obtain⟨k,f,a,rfl,hk,a1,a0,rfl,rfl,rfl,hf,ha,b⟩:=hrel;by_cases d:k<n
  ·obtain⟨g,off,rfl,S,V,X,Y,O⟩:=rdE (F.out.below b.out rfl) k _ (qIx z q n k d);obtain⟨i,r,f',l,u,L⟩:∃i r f l u,qIi z q k=⟨i,r,f,l,u⟩:=⟨_,_,_,_,_,rfl⟩;obtain⟨M,q2⟩:=N.out.one d;have B:=N.out.each k d;have m:=N.out.up k d;have s:=N.out.far k za;have HQ:=zH M;unfold qIi at L;injection L with x1 x2 x3 x4 x5
   have L:qIi z q k=⟨i,r,f',l,u⟩:=by unfold qIi;rw[x1,x2,x3,x4,x5]
   rw[L]at S V X Y O;simp only at S V X Y O;rw[x4]at M B;rw[x1]at s m;rw[x3]at M;have I:f'=f:=by rw[<-x3];exact hf.out
   subst I;have a3:f'+l<=10000:=za
   have H:40<=r/\r<=360/\r%40=0:=za
   obtain⟨a4,a5,a6⟩:=H;have t:((r:Int)%40 !=0)=yE:=zq
   have a7:(Int.tmod (r:Int) 40 !=0)=yE:=by rw[qSd za];exact t
   have a2:a<i:=by have:=ha.out;omega
   have HX:=zH (yO x1 (yO M m));clear x1 x2 x3 x4 x5 L M q2 m hf ha;have BW:=zH b.out;unfold zAx at O;clear b;obtain⟨W,R⟩:=zB (wr.alloc (qm #[qV qj (i:Int),qV qj (r:Int),qV qj (f':Int),qV qj (l:Int),qV .u32 (xD u)] TEn));obtain⟨Z,hZ⟩:=zB wr.heap.size;have j:W.drew.heap[Z]? =qw (qm #[qV qj (i:Int),qV qj (r:Int),qV qj (f':Int),qV qj (l:Int),qV .u32 (xD u)] TEn):=by rw[<-R,<-hZ];exact zAh wr _
   have L0:=yP ((loadVar 3 ⟨Z,0,qx⟩).run yG W.drew= .ok (qV qj (i:Int)) W.drew) (yh (by simp[yM,j]) zf zf);have L2:=yP ((loadVar 3 ⟨Z,2,qx⟩).run yG W.drew= .ok (qV qj (f':Int)) W.drew) (yh (by simp[yM,j]) zf zf);have L3:=yP ((loadVar 3 ⟨Z,3,qx⟩).run yG W.drew= .ok (qV qj (l:Int)) W.drew) (yh (by simp[yM,j]) zf zf);have K:=yP (yI w.heap.size w W.drew) (by rw[<-R];exact(BW.out.alloc BW.out.size _).drew);have o:IntKind.i64.wrap ((f':Int)+(l:Int))=((f'+l:Nat):Int):=by rw[qQb _ ⟨za,za⟩];omega
   obtain⟨G,HW,HZ⟩:=yR o R hZ;clear R hZ j o BW;go_wp2;clear S V X Y O;rw[show wr.alloc (qm #[qV qj (i:Int),qV qj (r:Int),qV qj (f':Int),qV qj (l:Int),qV .u32 (xD u)] TEn)=W from HW.out,HZ.out];refine zS [] (fun _=>True) [0,1,0,4,10,0,32,31,255] 9<|zp [0,1,2,3,4,5,6,7,8]<|zk 45 (zP Z 2)<|zt 46 (zI f') (zl 3 45 (L2.out))<|zk 47 (zP Z 3)<|zt 48 (zI l) (zl 3 47 (L3.out))<|zt 49 (qV qj ((f'+l:Nat):Int)) (Kit.qCv (x:= .tmp 46) (y:= .tmp 48) rfl zf zf G.out _)<|zk 50 (zP Z 0)<|zt 51 (zI i) (zl 3 50 (L0.out))<|zk 3 (qV qj ((f'+l:Nat):Int))<|zk 4 (zI i)<|zn<|zE<| ?_
   simp only[zP,zI,Act.put,qPz,qPy,qP0];go_wp2;go_roundw
   case rel=>exact⟨k+1,f'+l,i,rfl,za,za,za,by go_num,rfl,rfl,zH HX.out.2.1,zH HX.out.2.2,K⟩
   case measure=>simp only[intOf];omega
  ·obtain rfl:k=n:=za
   have BW:=zH b.out;clear b hf ha;go_wp2;simp only[Exit.noGoto];go_ret;exact⟨rfl,BW.out⟩
theorem qJy (t n:Nat) (q:List T) (P:Ps t q n) (p:Option yB) (c:Nat) (w:qy) (h:xJ LEn w p (ents t q n)) (S:n<=c) {X:Nat} (F:kG q.flatten=X):
  yC yG 195 #[qX p n c] w fun e w'=>e=qp (qV qj (X:Int))/\yI w.heap.size w w':=by
 obtain⟨y,j⟩:=yQ P h;have Z:=P.many;have W:X<=10000:=by rw[<-F];exact P.all
 obtain⟨z,H⟩:=yQ (zGf t n q P p c w h S) F;clear P h F;rcases qQy n with N|N
 ·subst N;have s:X=0:=by
   have:=y.out.len;have R:q=[]:=qQz this;rw[<-H.out,R];rfl
  subst s;clear z;go_enter func195,ntmps195;go_wp2;go_ret;exact⟨rfl,yN _ _⟩
 ·obtain⟨m,rfl⟩:∃m,n=m+1:=⟨n-1,za⟩;go_enter func195,ntmps195;go_wp2_with fail;(with_reducible refine z.out.mono ?_);rintro e w1 ⟨rfl,b⟩;obtain⟨g,off,rfl,I,K,L,M,B⟩:=rdE (j.out.below b rfl) m _ (qIx t q (m+1) m za);obtain⟨O,V⟩:=y.out.one (k:=m) za;have a:=qK8 q;rw[y.out.len,H.out]at a;unfold zAx at B;obtain⟨i,r,f,l,u,x⟩:∃i r f l u,qIi t q m=⟨i,r,f,l,u⟩:=⟨_,_,_,_,_,rfl⟩;have d:f+l=X:=by rw[<-a,O];unfold qIi at x;injection x with x1 x2 x3 x4 x5;rw[x3,x4]
  rw[x]at I K L M B;simp only at I K L M B;obtain⟨G,o⟩:=yQ b d;have Y:f+l<=10000:=za
  clear b O V a x d z;go_wp2;go_ret;refine⟨by rw[<-o.out];rfl,G.out.alloc G.out.size _⟩
end Ix2
namespace Ix2
open Hf Bt Zr Ch Tn Bk Sm
open Front (ival)
variable {j k:Nat} {n m:Int} {o:Oper} {P:Program} {ρ:Operand->qz} {t u:yA} {x y:Operand} {b:Bool}
theorem qKr (a:List T):∀(d k:Nat),k+d<=kG a->qH8 a k<=qH8 a (k+d)
 |0,_,_=>qPq _
 |d+1,k,h=>by
  have c:=qKr a d k za;have e:=qI2 a (k+d) za;rw[<-qR2];omega
theorem qIq (a:List T) (h:j<=k) (d:k<=kG a):qH8 a j<=qH8 a k:=by
 have c:=qKr a (k-j) j za;rwa[show j+(k-j)=k from za]at c
structure In (ps:List T) (n o j:Nat):Prop where
 lt:j<n
 lo:qH8 ps j<=o
 hi:o<qH8 ps (j+1)
theorem qMo (e n:Nat) (c:List T) (P:Ps e c n) (o:Nat) (h:o<kG c.flatten):∃j,In c n o j:=by
 have a:∀m,m<=n->o<qH8 c m->∃j,In c n o j:=by
  intro m
  induction m with
  |zero=>intro _ d;rw[qJ2]at d;omega
  |succ m ih=>
   intro g d;by_cases f:o<qH8 c m
   ·exact ih za f
   ·exact⟨m,za,za,d⟩
 refine a n (qPq _) ?_;have:=qK8 c;rw[P.len]at this;rw[this];exact h
theorem In.gt {e n:Nat} {a:List T} (P:Ps e a n) {o:Nat} (h:In a n o j) (f:k<n):(o<qH8 a k)↔j+1<=k:=by
 have g:=P.len;constructor
 ·intro d;rcases qP8 j k with c|c
  ·exact c
  ·have:=qIq a c (by have:=h.lt;omega);have:=h.lo;omega
 ·intro d;have:=qIq a d za;have:=h.hi;omega
theorem qOh (c:o.op= .binOp .gtr t x y u) (d:ρ x=qV qj m) (e:ρ y=qV qj n) (a:decide (n<m)=b) (w:qy):(execOp ρ o).run P w= .ok (.value (qc b)) w:=by
 unfold execOp;simp[c,d,e,go_sem,a]
theorem qOg (c:o.op= .binOp .lss t x y u) (d:ρ x=qV qj m) (e:ρ y=qV qj n) (a:decide (m<n)=b) (w:qy):(execOp ρ o).run P w= .ok (.value (qc b)) w:=by
 unfold execOp;simp[c,d,e,go_sem,a]
theorem qMj (c:o.op= .binOp .geq t x y u) (d:ρ x=qV qj m) (e:ρ y=qV qj n) (a:decide (n<=m)=b) (w:qy):(execOp ρ o).run P w= .ok (.value (qc b)) w:=by
 unfold execOp;simp[c,d,e,go_sem,a]
theorem qMt (r n:Nat) (q:List T) (P:Ps r q n) (p:Option yB) (c b s o j k:Nat) (w:qy) (h:xJ LEn w p (ents r q n)) (S:n<=c) (H:w.cell? ⟨b,0,qx⟩=qw (qX p n c)) (B:w.cell? ⟨s,0,qx⟩=qw (qV qj (o:Int))) (I:In q n o j) (K:k<n):
  yC yG 252 #[qV qj (k:Int),qY (qw ⟨b,0,qx⟩),qY (qw ⟨s,0,qx⟩)] w fun e w'=>e=qp (qc (yF (j+1<=k)))/\yI w.heap.size w w':=by
 have V:=P.many;obtain⟨g,off,rfl,M,N,G,O,R⟩:=rdE h k _ (qIx r q n k K);have l:=I.gt P K;obtain⟨f,z⟩:=zB (qH8 q k);have a:w.cell? ⟨g,off+k*5+2,qx⟩=qw (qV qj (f:Int)):=by rw[G];unfold qIi;rw[z]
 rw[z]at l;have HB:=yP ((loadVar 30 ⟨b,0,qx⟩).run yG w.drew= .ok (qX (qw ⟨g,off,qx⟩) n c) w.drew) (yh (by show w.cell? _=_;exact H) zf zf);have m:=yP ((loadVar 3 ⟨s,0,qx⟩).run yG w.drew= .ok (qV qj (o:Int)) w.drew) (yh (by show w.cell? _=_;exact B) zf zf);have L:=yP ((loadVar 3 ⟨g,off+k*5+2,qx⟩).run yG w.drew= .ok (qV qj (f:Int)) w.drew) (yh (by show w.cell? _=_;exact a) zf zf);have hd:decide ((o:Int)<(f:Int))=yF (j+1<=k):=by rw[decide_eq_decide];omega
 have F:=zH hd;obtain⟨d,i⟩:=zB (yF (j+1<=k));rw[i]at F⊢;clear P h H B I M N G O R a l z hd i;go_enter func252,ntmps252;go_wp2;refine zS [] (fun _=>True) [0,0,3,4,8,0,48,127] 8<|zp [0,1,2,3,4,5,6,7]<|zt 5 (qX (qw ⟨g,off,qx⟩) n c) (zl 30 1 (HB.out))<|zk 6 (zI k)<|zt 7 (qY (qw ⟨g,off+k*5,qx⟩)) (Kit.qCt (t:=30) (x:=(.tmp 5)) (y:=(.tmp 6)) (g:=g) (off:=off) (n:=n) (c:=c) (k:=k) (sz:=5) rfl zf zf za underlying30 (fun _=>sizeOf107 _) _)<|zk 8 (qY (qw ⟨g,off+k*5+2,qx⟩))<|zt 9 (zI f) (zl 3 8 (L.out))<|zt 10 (zI o) (zl 3 2 (m.out))<|zt 11 (qc d) (qOh (x:= .tmp 9) (y:= .tmp 10) rfl zf zf F.out _)<|zk 4 (qc d)<|zn<|zE<| ?_
 simp only[zP,zI,Act.put,qPz,qPy,qP0];go_wp2;go_ret;exact⟨rfl,(yN _ _).drew⟩
theorem qL0 (q n:Nat) (i:List T) (P:Ps q i n) (p:Option yB) (c b r o j:Nat) (w:qy) (h:xJ LEn w p (ents q i n)) (K:n<=c) (s:w.cell? ⟨b,0,qx⟩=qw (qX p n c)) (l:w.cell? ⟨r,0,qx⟩=qw (qV qj (o:Int))) (z:In i n o j):
  yC yG 251 #[qV qj (n:Int),.func (.func 252) #[] #[qY (qw ⟨b,0,qx⟩),qY (qw ⟨r,0,qx⟩)]] w fun e w'=>e=qp (qV qj ((j+1:Nat):Int))/\yI w.heap.size w w':=by
 have F:=zH (fun(k:Nat) (L:k<n) (w':qy) (B:yI w.heap.size w w')=>qMt q n i P p c b r o j k w' (h.below B rfl) K ((B.cell (qQk s)).trans s) ((B.cell (qQk l)).trans l) z L);have V:=P.many;have N:=z.lt;clear P h s l z;go_enter func251,ntmps251;go_wp2;go_loopw [5,6] (fun lv hv wr=>∃lo hi:Nat,lo<=j+1/\j+1<=hi/\hi<=n/\lv=qV qj lo/\hv=qV qj hi/\yH (yI w.heap.size w wr)) (fun lv hv _=>(intOf hv).toNat-(intOf lv).toNat)
 case atStart=>exact⟨0,n,za,za,za,rfl,rfl,zH (yN _ _)⟩
 case round=>
  obtain⟨lo,hi,G,H,I,rfl,rfl,a⟩:=hrel;by_cases O:lo<hi
  ·obtain⟨m,M⟩:=zB ((lo+hi)/2);have g:((lo:Int)+(hi:Int))/2=(m:Int):=za
   have S:lo<=m:=za
   have R:m<hi:=za
   clear M;go_wp2_with fail;clear g;(with_reducible refine(F.out m za wr a.out).mono ?_);rintro e W ⟨rfl,d⟩;have BW:=zH (a.out.trans (d.mono a.out.size));clear a d;by_cases hd:j+1<=m
   ·have f:decide (j+1<=m)=yD:=qP9 hd;go_wp2;go_roundw
    case rel=>exact⟨lo,m,G,hd,za,rfl,rfl,BW⟩
    case measure=>simp only[intOf];omega
   ·have f:decide (j+1<=m)=yE:=qP1 hd;go_wp2;go_roundw
    case rel=>exact⟨m+1,hi,za,H,I,by go_num,rfl,BW⟩
    case measure=>simp only[intOf];omega
  ·obtain rfl:lo=j+1:=za
   have BW:=zH a.out;clear a;go_wp2;go_ret;exact⟨rfl,BW.out⟩
theorem qNo (N n:Nat) (z:List T) (P:Ps N z n) (p:Option yB) (c o j:Nat) (w:qy) (h:xJ LEn w p (ents N z n)) (V:n<=c) (R:In z n o j):
  yC yG 196 #[qX p n c,qV qj (o:Int)] w fun e w'=>e=qp (qV qj (j:Int))/\yI w.heap.size w w':=by
 obtain⟨E,L⟩:=zB w.heap.size;obtain⟨X,S⟩:=zB (kG z.flatten);have a1:o<X:=by
  have h1:=qJb z (j+1);have h2:=R.hi;omega
 have a0:X<=10000:=by rw[<-S];exact P.all
 obtain⟨W,K⟩:=zB ((w.alloc (qm #[qX p n c] TEs)).alloc (qm #[qV qj (o:Int)] 3));have d:yI w.heap.size w W:=by rw[<-K];exact((yN _ _).alloc (qPq _) _).alloc (by rw[zA];omega) _
 have hz:W.heap.size=E+2:=by rw[<-K,zA,zA,L]
 have O:W.heap[E]? =qw (qm #[qX p n c] TEs):=by rw[<-K,<-L];exact(Lib.alloc_old _ _ _ (by rw[zA];omega)).trans (zAh w _)
 have f:W.heap[E+1]? =qw (qm #[qV qj (o:Int)] 3):=by rw[<-K,<-L,<-zA w (qm #[qX p n c] TEs)];exact zAh _ _
 have hn:=P.many;have HT:=yP (∀W',yI W.heap.size W W'->yC yG 195 #[qX p n c] W' fun e w'=>e=qp (qV qj (X:Int))/\yI W'.heap.size W' w') fun W' q=>qJy N n z P p c W' ((h.below d rfl).below q rfl) V S;have HS:=yP (∀W',yI W.heap.size W W'->_) (fun W' q=>qL0 N n z P p c E (E+1) o j W' ((h.below d rfl).below q rfl) V (by simp[yM,(q.block E za).trans O]) (by simp[yM,(q.block (E+1) za).trans f]) R);have HB:=yP (∀W',yI W.heap.size W W'->(loadVar TEs ⟨E,0,qx⟩).run yG W'= .ok (qX p n c) W') (fun W' q=>yh (by simp[yM,(q.block E za).trans O]) zf zf);have u:=yP (∀W',yI W.heap.size W W'->(loadVar 3 ⟨E+1,0,qx⟩).run yG W'= .ok (qV qj (o:Int)) W') (fun W' q=>yh (by simp[yM,(q.block (E+1) za).trans f]) zf zf);obtain⟨s,HW,Z,t⟩:=yS O K L d;have l:yI W.heap.size W W.drew:=(yN _ _).drew;have a:=zH l;have g:decide ((o:Int)<0)=yE:=by simp
 have i:decide ((X:Int)<=(o:Int))=yE:=zq
 obtain⟨F,H⟩:=yQ g i;have G:j<=1000:=by have:=R.lt;omega
 clear h S K d O f L l g i R hz;go_enter func196,ntmps196;go_wp2;rw[Z.out,show(w.alloc (qm #[qX p n c] TEs)).alloc (qm #[qV qj (o:Int)] 3)=W from HW.out];refine zS [] (fun W9=>yI W.heap.size W W9) [0,1,2,4,4,20,44,68] 8<|zp [0,1,2]<|zt 5 (zI o) ((fun w M=>zl 3 3 (u.out _ M)) _ (a.out))<|zt 6 (qc yE) (qOg (x:= .tmp 5) (y:= .const (qV qj 0)) rfl zf zf F.out _)<|zk 7 (qc yE)<|zn<|zy 3 8 (zI o) (fun w M=>zl 3 3 (u.out _ M)) a.out<|zp [4]<|zt 9 (qX p n c) ((fun w M=>zl 30 2 (HB.out _ M)) _ (a.out))<|zn<|zx 5 10 195 #[qX p n c] (HT.out _ a.out)<| ?_
 rintro e Y ⟨rfl,r⟩;have b:=zH (a.out.trans (r.mono a.out.size));refine⟨_,rfl,.inr (.inr b.out),?_⟩;refine zp [6,7]<|zt 11 (qc yE) (qMj (x:= .tmp 8) (y:= .tmp 10) rfl zf zf H.out _)<|zk 12 (qc yE)<|zn<|zE<| ?_
 simp only[zP,zI,Act.put,qPz,qPy,qP0];have y0:Y.cell? ⟨E,0,qx⟩=qw (qX p n c):=by simp[yM,(b.out.block E (zAd s.out)).trans s.out]
 obtain⟨I,k⟩:=yQ (HS.out Y b.out) (t.out.trans (b.out.mono t.out.size));have a2:j<=1000:=G;clear r;go_wp2_with fail;(with_reducible refine I.out.mono ?_);rintro e w6 ⟨rfl,m⟩;have B:=zH (k.out.trans (m.mono k.out.size));clear m y0;go_wp2;go_ret;refine⟨?_,B.out⟩
 first|rfl|(congr 1;congr 1;omega)
end Ix2
namespace Ix2
open Sm
open Front (ival)
variable {X:Nat}
def Cov (d:List T) (n X o m:Nat) (a b:Int):Prop:=((m=0\/X<=o)/\a= -1/\b= -1)\/(0<m/\o<X/\∃j c:Nat,a=(j:Int)/\b=(c:Int)/\In d n o j/\In d n (o+min m (X-o)-1) c)
theorem qOb (e n:Nat) (d:List T) (P:Ps e d n) (l:kG d.flatten=X) (o m:Nat):∃a b,Cov d n X o m a b:=by
 by_cases h:m=0\/X<=o
 ·exact⟨-1,-1,.inl ⟨h,rfl,rfl⟩⟩
 ·have g:0<m:=za
  have i:o<X:=za
  obtain⟨j,k⟩:=qMo e n d P o za;obtain⟨f,c⟩:=qMo e n d P (o+min m (X-o)-1) za;exact⟨j,f,.inr ⟨g,i,j,f,rfl,rfl,k,c⟩⟩
theorem qKw (z n:Nat) (t:List T) (P:Ps z t n) (p:Option yB) (c o m:Nat) (a b:Int) (w:qy) (h:xJ LEn w p (ents z t n)) (L:n<=c) (G:kG t.flatten=X) (hv:Cov t n X o m a b) (ho:o<=100000000) (hm:m<=100000000):
  yC yG 144 #[qX p n c,qV qj (o:Int),qV qj (m:Int)] w fun e w'=>e=qp (qZ #[qV qj a,qV qj b])/\yI w.heap.size w w':=by
 have u:=zH (qJy z n t P p c w h L G);have V:X<=10000:=by rw[<-G];exact P.all
 have x:=yP (∀(o j:Nat) (y:In t n o j) (w':qy),yI w.heap.size w w'->_) fun o j y w' H=>qNo z n t P p c o j w' (h.below H rfl) L y;clear P h G;rcases hv with⟨F,rfl,rfl⟩|⟨F,h2,j,N,rfl,rfl,y,g⟩
 ·by_cases K:m=0
  ·subst K;clear F x;go_enter func144,ntmps144;go_wp2_with fail;(with_reducible refine u.out.mono ?_);rintro e I ⟨rfl,f⟩;have q:=zH f;clear f u;go_wp2;go_ret2;exact⟨rfl,q.out⟩
  ·have h3:X<=o:=za
   have h4:1<=m:=za
   clear F x K;go_enter func144,ntmps144;go_wp2_with fail;(with_reducible refine u.out.mono ?_);rintro e I ⟨rfl,f⟩;have q:=zH f;clear f u;go_wp2;go_ret2;exact⟨rfl,q.out⟩
 ·obtain⟨d,hd⟩:=zB (min m (X-o));have W:1<=d:=za
  have Y:d<=m:=za
  have a0:max (o:Int) 0=(o:Int):=za
  have Z:min (m:Int) ((X:Int)-(o:Int))=(d:Int):=za
  rw[hd]at g;obtain⟨S,s⟩:=yQ y g;have M:((o+d-1:Nat):Int)=(o:Int)+(d:Int)-1:=za
  clear hd y g;go_enter func144,ntmps144;go_wp2_with fail;(with_reducible refine u.out.mono ?_);rintro e I ⟨rfl,f⟩;have q:=zH f;clear f u;have l:=zH (x.out o j S.out I q.out);have i:=yP (∀w':qy,yI w.heap.size w w'->yC yG 196 #[qX p n c,qV qj ((o:Int)+(d:Int)-1)] w' fun e O=>e=qp (qV qj (N:Int))/\yI w'.heap.size w' O) (fun w' H=>by have:=x.out (o+d-1) N s.out w' H;rw[M]at this;exact this);clear x M;go_wp2_with fail;(with_reducible refine l.out.mono ?_);rintro e w2 ⟨rfl,k⟩;have B:=zH (q.out.trans (k.mono q.out.size));clear k l;go_wp2_with fail;(with_reducible refine(i.out _ B.out).mono ?_);rintro e w3 ⟨rfl,r⟩;have R:=zH (B.out.trans (r.mono B.out.size));clear r i;go_wp2;go_ret2;exact⟨rfl,R.out⟩
end Ix2
namespace Sd
open Bt Zr
open Front (ival)
def byt (n i:Nat):UInt8:=UInt8.ofNat (n/256^i%256)
def be:Nat->Nat->List UInt8
 |0,_=>[]
 |k+1,n=>byt n k::be k n
theorem qIn:∀(k n:Nat),kG (be k n)=k
 |0,_=>rfl
 |k+1,n=>by rw[be,qP3,qIn k n]
abbrev TU8:yA:=5
abbrev TBy:yA:=109
abbrev C8:Nat->yA->Prop:=fun _ t=>t=TU8
def Bs (w:qy) (D:Nat) (p:Option yB) (m c:Nat) (l:List UInt8):Prop:=yg w D TU8 p m c (l.map Kit.zAe)\/(c=m/\kG l=m/\∃g,p=qw ⟨g,0,qx⟩/\Kit.Src w p (l.map Kit.zAe))
theorem Bs.below {w w':qy} {D:Nat} {p:Option yB} {m c:Nat} {l:List UInt8} (h:Bs w D p m c l) (a:yI w.heap.size w w'):Bs w' D p m c l:=by
 rcases h with h|⟨b,d,g,e,f⟩
 ·exact .inl (h.below a (qPq _))
 ·exact .inr ⟨b,d,g,e,f.below a⟩
end Sd
namespace Sd
open Bk Sm Ix2
open Front (ival)
def enB (e:En):List UInt8:=be 8 e.i++(be 2 e.r++(be 8 e.f++(be 4 e.l++be 4 e.u.toNat)))
theorem qOa (e:En):kG (enB e)=26:=by simp[enB,qIn]
def qKh (a:ByteArray) (n:Nat):List UInt8:=[80,77,105,49]++be 8 a.size++be 4 (zBa a.data.toList)++be 4 n
theorem qMp (a:ByteArray) (n:Nat):kG (qKh a n)=20:=by simp[qKh,qIn]
def qK3 (a:ByteArray) (n:Nat) (l:List En):List UInt8:=qKh a n++l.flatMap enB
theorem qJv (a:Nat) (b:List T):∀n,kG ((ents a b n).flatMap enB)=26*n
 |0=>rfl
 |n+1=>by rw[qJ7,List.flatMap_append,qPx,qJv a b n];simp[qOa];omega
theorem cells5 {w:qy} {B:Nat} {a b c d e:qz} {t:yA} (h:w.heap[B]? =qw (qm #[a,b,c,d,e] t)):w.cell? ⟨B,0,qx⟩=qw a/\w.cell? ⟨B,1,qx⟩=qw b/\w.cell? ⟨B,2,qx⟩=qw c/\w.cell? ⟨B,3,qx⟩=qw d/\w.cell? ⟨B,4,qx⟩=qw e:=
 ⟨by simp[yM,h],by simp[yM,h],by simp[yM,h],by simp[yM,h],by simp[yM,h]⟩
end Sd
namespace Sd
open Bt Zr Sq St Bk
open Front (ival)
abbrev TRd:yA:=310
def RS (w:qy) (R:Nat) (l:List UInt8):Prop:=w.heap[R]? =qw (qm #[qW ⟨l.toArray⟩,qc yE] TRd)
theorem qIa {w:qy} {B:Nat} {u v:qz} {t:yA} (h:w.heap[B]? =qw (qm #[u,v] t)):w.cell? ⟨B,0,qx⟩=qw u/\w.cell? ⟨B,1,qx⟩=qw v/\w.frozen? ⟨B,0,qx⟩=yE/\w.frozen? ⟨B,1,qx⟩=yE:=
 ⟨by simp[yM,h],by simp[yM,h],by simp[World.frozen?,h],by simp[World.frozen?,h]⟩
def pre (k n j:Nat):Nat:=n/256^(k-j)
theorem qM0:∀(k n j:Nat),j<k->(be k n)[j]? =qw (byt n (k-1-j))
 |0,_,_,h=>za
 |k+1,n,0,_=>by rw[be];simp
 |k+1,n,j+1,h=>by
  rw[be,List.getElem?_cons_succ,qM0 k n j za];congr 2;omega
theorem qN6 (v b:Nat) (hv:v<36028797018963968) (d:b<256):bits .or .u64 (IntKind.u64.wrap ((v:Int)*256)) (IntKind.u64.wrap (b:Int))=((v*256+b:Nat):Int):=by
 have a:IntKind.u64.wrap ((v:Int)*256)=((v*256:Nat):Int):=by rw[qSh _ ⟨za,za⟩];omega
 have c:IntKind.u64.wrap (b:Int)=(b:Int):=qSh _ ⟨za,za⟩;rw[a,c,u64_or_nat _ _ za za];congr 1;have h:=Nat.shiftLeft_add_eq_or_of_lt (i:=8) (b:=b) za v;rw[Nat.shiftLeft_eq]at h;exact h.symm
theorem qN (k n j:Nat) (h:j<k):pre k n (j+1)=pre k n j*256+(byt n (k-1-j)).toNat:=by
 unfold pre byt;obtain⟨d,hd⟩:∃d,k-j=d+1:=⟨k-j-1,za⟩;rw[hd,show k-(j+1)=d from za,show k-1-j=d from za,qRq,<-Nat.div_div_eq_div_mul];simp;omega
theorem qOk (k n j:Nat):pre k n j<=n:=Nat.div_le_self _ _
theorem qOj (k n j:Nat) (h:j<k):pre k n j<=n/256:=by
 unfold pre;obtain⟨d,hd⟩:∃d,k-j=d+1:=⟨k-j-1,za⟩;rw[hd,qRq,qRo,<-Nat.div_div_eq_div_mul];exact Nat.div_le_self _ _
theorem zHq (R n k:Nat) (P:n<4611686018427387904) (O:k=8\/k=4\/k=2) (B:n<256^k) {K:Int} (V:(k:Int)=K) (t:List UInt8) (ht:kG t<=1000000) (w:qy) (h:RS w R (be k n++t)):
  yC yG 186 #[qY (qw ⟨R,0,qx⟩),qV qj K] w fun e w'=>e=qp (qV qj (n:Int))/\RS w' R t/\(∀b,b≠R->w'.heap[b]? =w.heap[b]?)/\w'.heap.size=w.heap.size/\yI R w w':=by
 subst V;obtain⟨G,HK,r⟩:=yR h O B;obtain⟨c0,c1,I,L⟩:=qIa h;have a1:k<=8:=za
 obtain⟨s,x⟩:=zB ((⟨(be k n++t).toArray⟩:ByteArray));have a2:s.size=k+kG t:=by rw[<-x];simp[ByteArray.size,qIn]
 rw[x]at c0;have H:=zH x;clear h O B x;go_enter func186,ntmps186;go_wp2;clear c1 I L;go_loopw [5,8] (fun W iv wr=>∃(j v:Nat),j<=k/\yH (v<4611686018427387904)/\iv=qV qj j/\W=qV .u64 v/\yH (pre k n j=v)/\w=wr) (fun _ iv _=>k-(intOf iv).toNat)
 case atStart=>exact⟨0,0,za,zH za,rfl,rfl,zH (by unfold pre;rw[Nat.sub_zero];exact Nat.div_eq_of_lt r.out),rfl⟩
 case round=>
  obtain⟨j,v,hj,hv,rfl,rfl,u,rfl⟩:=hrel;by_cases a:j<k
  ·have a0:(j:Int)<(s.size:Int):=za
   obtain⟨X,N⟩:=zB (IntKind.u64.wrap ((v:Int)*256));obtain⟨HX,F⟩:=yQ N P;clear P;have z:(s[j]' za).toNat=(byt n (k-1-j)).toNat:=by
    have y:s.data[j]? =qw (byt n (k-1-j)):=by
     rw[<-H.out];simp only[List.getElem?_toArray];rw[qR6 (by rw[qIn];exact a),qM0 k n j a]
    have M:s.data[j]? =qw (s[j]' za):=qT2 _;rw[M]at y;rw[qPv y]
   obtain⟨b,q⟩:=zB ((byt n (k-1-j)).toNat);have i:b<256:=by rw[<-q];exact qTf _
   have d:=qN k n j a;rw[u.out,q]at d;have g:=qOj k n j a;rw[u.out]at g;have c:=qN6 v b (by have:=F.out;omega) i;rw[N]at c;obtain⟨l,f,m⟩:=yR c d (qOk k n (j+1));rw[q]at z;have S:=zH z;clear z c d g q u i;go_wp2;go_roundw
   case rel=>
    refine⟨j+1,v*256+b,za,zH (by have y:=f.out;have M:=m.out;have h3:=F.out;omega),by go_num,?_,f,trivial⟩;rw[S.out,l.out]
   case measure=>simp only[intOf];omega
  ·obtain rfl:j=k:=za
   have o:v=n:=by have:=u.out;unfold pre at this;rw[Nat.sub_self,Nat.pow_zero,Nat.div_one]at this;exact this.symm
   subst o;have Y:s.extract j (j+kG t)=(⟨t.toArray⟩:ByteArray):=by
    rw[<-H.out];apply ByteArray.ext;simp[ByteArray.data_extract,qIn]
   have Z:((v:Int)/9223372036854775808==1)=yE:=by rw[Int.ediv_eq_zero_of_lt za za];rfl
   obtain⟨c0,c1,I,L⟩:=qIa G.out;go_wp2;go_ret;exact⟨rfl,zA3 1 _ (zA3 0 _ G.out),fun b q=>(zAa q).trans (zAa q),zm,((yN R w).setCell (p:=⟨R,0,qx⟩) (qPq _) _).setCell (p:=⟨R,1,qx⟩) (qPq _) _⟩
end Sd
end Go.Proofs.YtppnakkaljbmbaaGreatDoor
