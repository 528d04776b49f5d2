/- Steps of a proof; no condition beyond what each states. -/
import Derived.Test.YtppnakkaljbmbaaGreatDoorZX00
import Derived.Deep.RegionHeld3
import Derived.Test.YtppnakkaljbmbaaGreatDoorZX27
set_option linter.unusedVariables false
set_option linter.unusedSimpArgs false
set_option maxRecDepth 100000
set_option maxHeartbeats 8000000
open List renaming length->kG
open Go.RowKit
open Go.Proofs.Tryz
open Go.Value renaming int->qV,string->qW,slice->qX,pointer->qY,tuple->qZ
open Go.IntKind renaming i64->qj
open Go.Obj renaming cells->qm
open Go.Ending renaming returned->qp
open Option renaming some->qw,none->qx
open Go renaming World->qy,Value->qz,TypeId->yA,Addr->yB,Calls->yC,undef->yJ
open Bool renaming true->yD,false->yE
open Go.Proofs.Tryz renaming prog->yG
open Go.RowKit renaming Hid->yH,Below->yI
open Go.World renaming cell?->yM
open Go.RowKit.Below renaming refl->yN
namespace Go.Proofs.YtppnakkaljbmbaaGreatDoor
namespace Cache
open Go.Shelf
abbrev TI:yA:=3
def qAp (x:Int):qz:=qV qj x
theorem qO5:Kit.One yG 23 TI 8:=⟨underlying23,qV qj 0,zf,rfl⟩
theorem qFf {l l':List Hd} {d:Int} (a:Good d l) (m:d<=qIf) (c:l'.Perm l) (n:l'.Pairwise fun x y=>wrap64 (-x.st)<=wrap64 (-y.st)):l'=ord l:=by
 refine qN5 a.2.2 c ?_;have k:l'.Pairwise fun x y=>x.st≠y.st:=(qUj (fun h=>qQ2 h) c).2 a.2.2;have f:∀x∈l',wrap64 (-x.st)= -x.st:=fun x o=>by
  have:=a.1 x (c.subset o);unfold qIf at m;unfold wrap64;omega
 refine qSf.2 fun i j hi b e=> ?_;have g:=qSf.1 n i j hi b e;have p:=qSf.1 k i j hi b e;rw[f _ (qQ hi),f _ (qQ b)]at g;omega
theorem zOm (c:Sh) (a:Option yB) (aa:Nat) (w:qy) (hm:kG c.held<=1000000) (hs:qIg w a c.held):
  yC yG 42 #[zC7 c a aa] w fun e w'=>∃a' n k,e=qp (qX a' n k)/\Kit.Own w' w.heap.size TI a' n k ((order c).map qAp)/\yI w.heap.size w w':=by
 obtain⟨W0,d⟩:=zB (w.alloc (qm #[qV qj c.room,qV qj c.clock,qX a (kG c.held) aa] TS));have t:yI w.heap.size w W0:=by rw[<-d];exact(yN _ _).alloc (qPq _) _
 have a0:W0.heap.size=w.heap.size+1:=by rw[<-d,qH6]
 have c0:W0.cell? ⟨w.heap.size,0,qx⟩=qw (qV qj c.room):=by rw[<-d];simp
 have c1:W0.cell? ⟨w.heap.size,1,qx⟩=qw (qV qj c.clock):=by rw[<-d];simp
 have c2:W0.cell? ⟨w.heap.size,2,qx⟩=qw (qX a (kG c.held) aa):=by rw[<-d];simp
 obtain⟨HR,HS,HW,X⟩:=yS (zGf c a aa W0 (by unfold maxLen;omega) (hs.below t rfl)) (hs.below t rfl) d t;clear hs d t;unfold zC7 at HR⊢;go_enter func42,ntmps42;go_wp2_with fail;rw[show w.alloc (qm #[qV qj c.room,qV qj c.clock,qX a (kG c.held) aa] TS)=W0 from HW.out];refine HR.out.mono ?_;rintro e W ⟨rfl,l⟩;have V:w.heap.size<W.heap.size:=by have:=l.size;omega
 have d2:W.cell? ⟨w.heap.size,2,qx⟩=qw (qX a (kG c.held) aa):=by rw[l.cell (p:=⟨w.heap.size,2,qx⟩) (by rw[a0];show w.heap.size<_;omega)];exact c2
 obtain⟨a7,N⟩:=yQ (HS.out.below l rfl) (X.out.trans (l.mono za));clear l c0 c1 c2;by_cases hr:right c=yD
 ·have K:=zH hr;have S:kG c.held<=64:=by have:=(zIu c).1 hr;unfold Right at this;omega
  rw[hr];clear hr;have I:∀w',yI W.heap.size W w'->yC yG 118 #[] w' fun e w1=>e=qp (.agg #[.func (.func 164) #[] #[]])/\w1.cell? ⟨w.heap.size,2,qx⟩=qw (qX a (kG c.held) aa)/\yH (yI W.heap.size W w1):=fun w' z=>(qMz w').mono fun e w1 ⟨he,h1⟩=>
   ⟨he,by rw[h1.cell (p:=⟨w.heap.size,2,qx⟩) (by have:=z.size;show w.heap.size<_;omega),z.cell (p:=⟨w.heap.size,2,qx⟩) V];exact d2,zH (z.trans (h1.mono z.size))⟩
  have P:∀w',yI W.heap.size W w'->yC yG 119 #[.agg #[.func (.func 164) #[] #[]],qX a (kG c.held) aa] w' fun e w2=>∃a' n k l',e=qp (qX a' n k)/\yH (l'.Perm c.held/\(l'.Pairwise fun x y=>wrap64 (-x.st)<=wrap64 (-y.st))/\qI w2 W.heap.size a' n k l')/\yH (yI W.heap.size W w2):=fun w' z=>
   (qJl 164 _ qOm a (kG c.held) aa c.held rfl za w' (a7.out.below z rfl)).mono fun e w2 ⟨a',n,k,l',he,p1,p2,p3,p4⟩=>⟨a',n,k,l',he,zH ⟨p1,p2,p3.base z.size⟩,zH (z.trans (p4.mono z.size))⟩
  obtain⟨Z,a4,a2⟩:=yR I P ((yN W.heap.size W).drew);clear I P;go_wp2_with fail;go_region_with (first
   |(go_at_call 118;refine(Z.out _ a2.out).mono ?_;rintro e w1 ⟨rfl,d3,a9⟩)
   |(go_at_call 119;refine(a4.out _ a9.out).mono ?_;rintro e w2 ⟨a',n,k,l',rfl,m,O⟩))
  all_goals
   have g:kG l'=n:=m.out.2.2.len;have f:order c=l'.map Hd.blk:=by
    have hg:=(zIu c).1 K.out;unfold order;rw[qPr K.out,<-qFf hg.2.2.2.2.2 hg.2.2.2.1 m.out.1 m.out.2.1]
   have ab:n<=64:=by rw[<-g,m.out.1.length_eq];exact S
   obtain⟨o,B⟩:=yQ f g;clear g f;obtain⟨N2,H⟩:=zB w2.heap.size;have ac:W.heap.size<=w2.heap.size:=O.out.size;have s:=zH H;clear H;simp only[qS1,qSu,qS9,Act.put,qPz,qP0,qPy];go_wp2;go_loopw [2,13] (fun v i wr=>∃(j:Nat) (p:Option yB) (q:Nat),j<=n/\i=qV qj j/\v=qX p j q/\yH (Kit.Own wr N2 TI p j q ((l'.take j).map fun x=>qAp x.blk))/\yH (yI N2 w2 wr)) (fun _ i _=>n-(intOf i).toNat)
   case atStart=>exact⟨0,qx,0,za,rfl,rfl,zH (Kit.Own.start _ _ _),zH (yN _ _)⟩
   case round=>
    obtain⟨j,p,q,hj,rfl,rfl,r,z⟩:=hrel;by_cases a3:j<n
    ·have G:j<kG l':=by rw[B.out];exact a3
     obtain⟨x,hx⟩:=zB (l'[j]);obtain⟨b,off,ha,ad,e0,e1,e2⟩:=(m.out.2.2.src.below z.out s.out.symm).at_ j G;rw[hx]at e0 e1 e2;subst ha;have a6:N2<=wr.heap.size:=by have h:=z.out.size;rw[s.out]at h;exact h
     obtain⟨p3,c3,w3,a8,L,M⟩:=Kit.Own.app (ty:=23) (w:=(wr.alloc (qIk x)).alloc (qm #[qV qj x.blk] TI)) qO5 ((r.out.alloc _).alloc _) (qw ⟨wr.heap.size+1,0,qx⟩) 1 1 [qAp x.blk] (by have h:=Kit.zAs (wr.alloc (qIk x)) (qAp x.blk) TI;rw[qH6]at h;exact h) rfl (fun h=>by cases h) (by intro u hu;simp at hu;subst hu;rfl) (by unfold maxLen;omega) za (by rw[qH6,qH6];omega);have R:yI N2 w2 w3:=z.out.trans ((((yN _ wr).alloc a6 _).alloc (by rw[qH6];omega) _).trans ((yN _ _).grown M (by rw[qH6,qH6];omega) (fun k hk=>r.out.block k hk)));obtain⟨a5,Y,HX⟩:=yR L R hx;clear L R M hx;go_wp2_with (at_builtin;refine Kit.zAr rfl (.tmp 17) (.tmp 20) 23 rfl rfl rfl a8 ?_);go_roundw
     case rel=>
      refine⟨j+1,p3,c3,za,by go_num,rfl,?_,Y⟩;rw[zEz l' j G,HX.out,qQd];exact a5
     case measure=>simp[intOf];omega
    ·have a1:j=n:=za
     subst a1;go_wp2;go_ret;refine⟨_,_,_,rfl,?_,?_⟩
     ·have h:=r.out;rw[qQg (by rw[B.out];omega)]at h;rw[o.out,qRr];exact h.base (by rw[<-s.out];omega)
     ·exact N.out.trans ((O.out.mono za).trans (z.out.mono (by rw[<-s.out];omega)))
 ·have F:right c=yE:=by simpa using hr
  have f:order c=[]:=by unfold order;rw[F];simp
  have o:=zH f;rw[F];clear hr F f;go_wp2;go_ret;exact⟨_,_,_,rfl,by rw[o.out];exact Kit.Own.start _ _ _,N.out⟩
end Cache
namespace Cache
open Go.Shelf
variable {w w':qy} {X R:Nat} {room clock:Int}
theorem qMi {l l':List Hd} (b:qId l) (a:l'.Perm l) (d:l'.Pairwise fun x y=>x.blk<=y.blk):l'=l:=by
 refine zL5 Hd.blk l' l a ?_ b;have c:l'.Pairwise fun x y=>x.blk≠y.blk:=(qUj (fun h=>qQ2 h) a).2 (b.imp fun h=>za);exact(d.and c).imp fun h=>za
structure qJo (w':qy) (X R:Nat) (room clock:Int):Prop where
 x0:w'.cell? ⟨X,0,qx⟩=qw (qV qj room)
 x1:w'.cell? ⟨X,1,qx⟩=qw (qV qj clock)
 r0:w'.cell? ⟨R,0,qx⟩=qw (qV qj 0)
 r1:w'.cell? ⟨R,1,qx⟩=qw (qV qj 0)
 r2:w'.cell? ⟨R,2,qx⟩=qw (qX qx 0 0)
 f0:w'.frozen? ⟨R,0,qx⟩=yE
 f1:w'.frozen? ⟨R,1,qx⟩=yE
 f2:w'.frozen? ⟨R,2,qx⟩=yE
theorem qJo.below {N:Nat} (h:qJo w X R room clock) (a:yI N w w') (c:X<N) (b:R<N):qJo w' X R room clock:=
 ⟨by rw[a.cell (p:=⟨X,0,qx⟩) c];exact h.x0,by rw[a.cell (p:=⟨X,1,qx⟩) c];exact h.x1,by rw[a.cell (p:=⟨R,0,qx⟩) b];exact h.r0,by rw[a.cell (p:=⟨R,1,qx⟩) b];exact h.r1,by rw[a.cell (p:=⟨R,2,qx⟩) b];exact h.r2,
  by rw[a.frozen (p:=⟨R,0,qx⟩) b];exact h.f0,by rw[a.frozen (p:=⟨R,1,qx⟩) b];exact h.f1,by rw[a.frozen (p:=⟨R,2,qx⟩) b];exact h.f2⟩
def qJx (W:qy) (X R:Nat) (room clock:Int) (w':qy):Prop:=
 w'.cell? ⟨X,0,qx⟩=qw (qV qj room)/\w'.cell? ⟨X,1,qx⟩=qw (qV qj clock)/\w'.cell? ⟨R,0,qx⟩=qw (qV qj 0)/\w'.cell? ⟨R,1,qx⟩=qw (qV qj 0)/\w'.cell? ⟨R,2,qx⟩=qw (qX qx 0 0)/\
  w'.frozen? ⟨R,0,qx⟩=yE/\w'.frozen? ⟨R,1,qx⟩=yE/\w'.frozen? ⟨R,2,qx⟩=yE/\yH (yI W.heap.size W w')
theorem qJo.all {W:qy} (h:qJo W X R room clock) (l:X<W.heap.size) (k:R<W.heap.size) (a:yI W.heap.size W w'):qJx W X R room clock w':=by
 obtain⟨b,c,d,e,f,g,i,j⟩:=h.below a l k;exact⟨b,c,d,e,f,g,i,j,zH a⟩
theorem zB1 (w:qy) (r i:Nat) (u:qz):w.grownBy (w.setCell ⟨r,i,qx⟩ u) (qw r):=
 ⟨rfl,rfl,rfl,zm,fun k a hne=>Below.heap_setCell _ _ _ k (fun e=>hne (by rw[e]))⟩
theorem qI.set {B r i:Nat} {a:Option yB} {n c:Nat} {l:List Hd} (h:qI w B a n c l) (b:r<B) (u:qz):qI (w.setCell ⟨r,i,qx⟩ u) B a n c l:=
 qRy h (zB1 w r i u) (.inr fun e=>by have:=h.block r e;omega)
theorem qIl {x y z u v t:qz} (a:w.cell? ⟨R,0,qx⟩=qw u) (b:w.cell? ⟨R,1,qx⟩=qw v) (c:w.cell? ⟨R,2,qx⟩=qw t):
  (((w.setCell ⟨R,0,qx⟩ x).setCell ⟨R,1,qx⟩ y).setCell ⟨R,2,qx⟩ z).cell? ⟨R,0,qx⟩=qw x/\(((w.setCell ⟨R,0,qx⟩ x).setCell ⟨R,1,qx⟩ y).setCell ⟨R,2,qx⟩ z).cell? ⟨R,1,qx⟩=qw y/\(((w.setCell ⟨R,0,qx⟩ x).setCell ⟨R,1,qx⟩ y).setCell ⟨R,2,qx⟩ z).cell? ⟨R,2,qx⟩=qw z:=by
 have g1:(w.setCell ⟨R,0,qx⟩ x).cell? ⟨R,1,qx⟩=qw v:=by rw[qQe _ _ _ _ (by intro e;injection e with _ e2 _;omega)];exact b
 have g2:((w.setCell ⟨R,0,qx⟩ x).setCell ⟨R,1,qx⟩ y).cell? ⟨R,2,qx⟩=qw t:=by
  rw[qQe _ _ _ _ (by intro e;injection e with _ e2 _;omega),qQe _ _ _ _ (by intro e;injection e with _ e2 _;omega)];exact c
 refine⟨?_,?_,qRi _ _ _ g2⟩
 ·rw[qQe _ _ _ _ (by intro e;injection e with _ e2 _;omega),qQe _ _ _ _ (by intro e;injection e with _ e2 _;omega)];exact qRi _ _ _ a
 ·rw[qQe _ _ _ _ (by intro e;injection e with _ e2 _;omega)];exact qRi _ _ _ g1
theorem Below.qI4 {D:Nat} (h:yI D w w') (a:D<=R) (x y z:qz):yI D w (((w'.setCell ⟨R,0,qx⟩ x).setCell ⟨R,1,qx⟩ y).setCell ⟨R,2,qx⟩ z):=
 ((h.setCell (p:=⟨R,0,qx⟩) a x).setCell (p:=⟨R,1,qx⟩) a y).setCell (p:=⟨R,2,qx⟩) a z
theorem qM3 (b nd B:Nat) (l:List Hd) (c:Sh) (a:Option yB) (a3:Nat) (q:Int) (a0:ByteArray) (w:qy) (hd:qIc w b nd l) (a8:nd<=1000) (hB:B<=b) (a5:B<=w.heap.size) (hl:kG l<=500) (ac:0<=c.clock) (a7:c.clock<qIf) (ab:0<=q) (a6:q<=9223372036854775807):
  yC yG 290 #[.map (qw b),zC7 c a a3,qV qj q,qW a0] w fun e w'=>∃a' n k,e=qp (.agg #[qV qj c.room,qV qj (c.clock+1),qX a' n k])/\
   qI w' w.heap.size a' n k (put ⟨q,c.clock+1,a0⟩ l)/\yI B w w'/\(∀k,k<w.heap.size->k≠b->w'.heap[k]? =w.heap[k]?):=by
 unfold qIf at a7;obtain⟨W0,f⟩:=zB ((w.alloc (qm #[qV qj c.room,qV qj c.clock,qX a (kG c.held) a3] TS)).alloc (qm #[qV qj 0,qV qj 0,qX qx 0 0] TS));have a9:=hd.lt;have ad:W0.heap.size=w.heap.size+2:=by rw[<-f,qH6,qH6]
 have i:yI w.heap.size w W0:=by rw[<-f];exact((yN _ w).alloc (qPq _) _).alloc (by rw[qH6];omega) _
 have F:W0.heap[w.heap.size]? =qw (qm #[qV qj c.room,qV qj c.clock,qX a (kG c.held) a3] TS):=by
  rw[<-f,Below.heap_alloc _ _ _ (by rw[qH6];omega)];exact World.alloc_heap_new _ _
 have L:W0.heap[w.heap.size+1]? =qw (qm #[qV qj 0,qV qj 0,qX qx 0 0] TS):=by
  rw[<-f];have h:=World.alloc_heap_new (w.alloc (qm #[qV qj c.room,qV qj c.clock,qX a (kG c.held) a3] TS)) (qm #[qV qj 0,qV qj 0,qX qx 0 0] TS);rwa[qH6]at h
 obtain⟨W,G,K,u⟩:=(hd.below i (qPq _)).store ⟨q,c.clock+1,a0⟩ (by show _<=q;omega) a6 za;have j:=u.grown;have ae:w.heap.size+2<=W.heap.size:=by have:=j.size;omega
 have I:W.heap[w.heap.size]? =W0.heap[w.heap.size]? :=j.block _ za (fun e=>by injection e with e;omega);have H:W.heap[w.heap.size+1]? =W0.heap[w.heap.size+1]? :=j.block _ za (fun e=>by injection e with e;omega);have hU:qJo W w.heap.size (w.heap.size+1) c.room c.clock:=by
  rw[F]at I;rw[L]at H;refine⟨?_,?_,?_,?_,?_,?_,?_,?_⟩<;>simp[yM,World.frozen?,I,H]
 have M:yI B w W:=(i.mono a5).trans (qI5 u hB za);have Y:yH (∀k,k<w.heap.size->k≠b->W.heap[k]? =w.heap[k]?):=zH (fun k hk hne=>(j.block k za (fun e=>by injection e with e;exact hne e)).trans (i.block k hk));have S:W0.cell? ⟨w.heap.size,1,qx⟩=qw (qV qj c.clock):=by simp[yM,F]
 have h0:=hU.all za za ((yN W.heap.size W).drew);have all:∀w',yI W.heap.size W w'->qJx W w.heap.size (w.heap.size+1) c.room c.clock w':=fun w' h=>hU.all za za h;have s:∀w',yH (yI W.heap.size W w')->yC yG 321 #[] w' fun e w1=>e=qp (.agg #[.func (.func 346) #[] #[]])/\qJx W w.heap.size (w.heap.size+1) c.room c.clock w1/\yH (yI w'.heap.size w' w1):=fun w' Z=>
  (qLn w').mono fun e w1 ⟨he,h1⟩=>⟨he,all _ (Z.out.trans (h1.mono Z.out.size)),zH h1⟩
 have d:∀w',yH (yI W.heap.size W w')->yC yG 322 #[.map (qw b)] w' fun e w1=>∃Bs,e=qp (.func (.func 347) #[] #[qY (qw ⟨Bs,0,qx⟩)])/\qJx W w.heap.size (w.heap.size+1) c.room c.clock w1/\yH (Bs<w1.heap.size/\w1.cell? ⟨Bs,0,qx⟩=qw (.map (qw b))):=fun w' Z=>
  (qLk (qw b) w').mono fun e w1 ⟨he,h1⟩=>⟨_,he,all _ (by rw[h1];exact Z.out.alloc Z.out.size _),zH (by rw[h1,qH6];exact⟨za,zm⟩)⟩
 have g:∀w' Bs,yH (yI W.heap.size W w')->yH (Bs<w'.heap.size/\w'.cell? ⟨Bs,0,qx⟩=qw (.map (qw b)))->yC yG 203 #[.func (.func 347) #[] #[qY (qw ⟨Bs,0,qx⟩)]] w' fun e w1=>∃a1 n1 k1,e=qp (qX a1 n1 k1)/\qJx W w.heap.size (w.heap.size+1) c.room c.clock w1/\yH (∃l1:List Hd,l1.Perm (put ⟨q,c.clock+1,a0⟩ l)/\kG l1=n1/\qIg w1 a1 l1):=fun w' Bs Z a4=>by
  have t:kG (put ⟨q,c.clock+1,a0⟩ l)<=1000:=by
   obtain⟨D,_,hD⟩:=hd;have:=zFm l hD.rise ⟨q,c.clock+1,a0⟩;split at this<;>omega
  have hq:=qLj 2 w'.heap.size Bs b (nd+1) za (put ⟨q,c.clock+1,a0⟩ l) w' (K.below Z.out (qPq _)) (qPq _) a4.out.1 a4.out.2;exact(zS5 _ _ _ _ t w' (enters_of func347 zf rfl) hq).mono fun e w1 ⟨a1,n1,k1,l1,he,p1,p2,p3⟩=>
   ⟨a1,n1,k1,he,all _ (Z.out.trans (p3.mono Z.out.size)),zH ⟨l1,p1,p2.len,p2.src⟩⟩
 have m:∀w' a1 n1 k1,yH (yI W.heap.size W w')->yH (∃l1:List Hd,l1.Perm (put ⟨q,c.clock+1,a0⟩ l)/\kG l1=n1/\qIg w' a1 l1)->yC yG 119 #[.agg #[.func (.func 346) #[] #[]],qX a1 n1 k1] w' fun e w2=>∃a2 n2 k2,e=qp (qX a2 n2 k2)/\qJx W w.heap.size (w.heap.size+1) c.room c.clock w2/\yH (qI w2 W.heap.size a2 n2 k2 (put ⟨q,c.clock+1,a0⟩ l)):=fun w' a1 n1 k1 Z hs=>by
  obtain⟨D,_,hD⟩:=hd;obtain⟨l1,q1,q2,q3⟩:=hs.out;have t:kG (put ⟨q,c.clock+1,a0⟩ l)<=1000:=by
   have:=zFm l hD.rise ⟨q,c.clock+1,a0⟩;split at this<;>omega
  exact(qJl 346 _ qNh a1 n1 k1 l1 q2 (by rw[<-q2,q1.length_eq];exact t) w' q3).mono fun e w2 ⟨a2,n2,k2,l2,he,p1,p2,p3,p4⟩=>
   ⟨a2,n2,k2,he,all _ (Z.out.trans (p4.mono Z.out.size)),zH (by rw[<-qMi (hD.rise.put _) (p1.trans q1) p2];exact p3.base Z.out.size)⟩
 unfold qJx at h0 s d g m;obtain⟨i0,i1,i2,i3,i4,i5,i6,i7,i8⟩:=h0;obtain⟨O,P,V,R,X,aa⟩:=yU s d g m M f;have r:IntKind.i64.wrap (c.clock+1)=c.clock+1:=qQb _ ⟨za,za⟩;have N:=zH r;have lX:w.heap.size<W.heap.size:=za
 have lR:w.heap.size+1<W.heap.size:=za
 clear s d g m M all r hd K i F L I H j u hU hl a8;unfold zC7;unfold hval at G;go_enter func290,ntmps290;go_wp2_with (at_mapUpdate;refine qK0 rfl _ _ _ 416 rfl rfl rfl rfl G ?_);have r:=N.out;clear S f G;go_region_held3 (fun w'=>w'.cell? ⟨w.heap.size,0,qx⟩=qw (qV qj c.room)/\w'.cell? ⟨w.heap.size,1,qx⟩=qw (qV qj c.clock)) (first|assumption|(refine⟨?_,?_⟩<;>assumption)|(refine⟨?_,?_⟩<;>(rw[qQe _ _ _ _ zm,qQe _ _ _ _ zm,qQe _ _ _ _ zm];assumption))|go_keep)
  (first
   |(go_at_call 321;refine(O.out _ (by assumption)).mono ?_;rintro e ag ⟨rfl,⟨p0,p1,p2,p3,p4,p5,p6,p7,p8⟩,o⟩)
   |(go_at_call 322;refine(P.out _ (by assumption)).mono ?_;rintro e ai ⟨Bs,rfl,⟨q0,q1,q2,q3,q4,q5,q6,q7,q8⟩,d⟩)
   |(go_at_call 203;refine(V.out _ _ (by assumption) ?_).mono ?_;(first|exact d|exact zH ⟨qQv d.out.1 o.out.size,(o.out.cell (p:=⟨_,0,none⟩) d.out.1).trans d.out.2⟩);rintro e ah ⟨a1,n1,k1,rfl,⟨r0,r1,r2,r3,r4,r5,r6,r7,r8⟩,g⟩)
   |(go_at_call 119;refine(R.out _ _ _ _ (by assumption) ?_).mono ?_;(first|exact g|exact zH (g.out.elim fun l1 h=>⟨l1,h.1,h.2.1,h.2.2.below o.out rfl⟩));rintro e af ⟨a2,n2,k2,rfl,⟨s0,s1,s2,s3,s4,s5,s6,s7,s8⟩,m⟩))
 clear r;go_wp2;obtain⟨z0,z1,z2⟩:=qIl (x:=qV qj c.room) (y:=qV qj (c.clock+1)) (z:=qX a2 n2 k2) s2 s3 s4;refine qP5 (v:= .agg #[qV qj c.room,qV qj (c.clock+1),qX a2 n2 k2]) ?_ rfl ?_
 ·exact qIw rfl _ _ _ ⟨w.heap.size+1,0,qx⟩ _ rfl (qIm _ _ _ _ _ z0 z1 z2)
 ·exact⟨a2,n2,k2,rfl,(((m.out.set lR _).set lR _).set lR _).base za,Below.qI4 (X.out.trans (s8.out.mono za)) za _ _ _,fun k hk hne=>((Below.qI4 (s8.out.mono (qP6 lX)) za _ _ _).block k hk).trans (Y.out k hk hne)⟩
end Cache
namespace Cache
open Go.Shelf
variable {fn:Func} {p u:Tmp} {ty:yA} {w w':qy} {a:Option yB} {k B n c R:Nat}
theorem qJa (h:fn.results= #[.cell p ty,.tmp u]) (tmps:Array qz) (P:Program) (w:qy) (a:yB) (v:qz) (d:tmps.getD p yJ=qY (qw a)) (b:(loadVar ty a).run P w= .ok v w):
  (results fn tmps).run P w= .ok (qZ #[v,tmps.getD u yJ]) w:=by
 rw[results_cell_tmp h,d];simp[asAddr,b,Result.andThen]
theorem qIh {t:Tmp} (h:fn.results= #[.tmp t,.cell p ty,.tmp u]) (tmps:Array qz) (P:Program) (w:qy) (a:yB) (v:qz) (e:tmps.getD p yJ=qY (qw a)) (d:(loadVar ty a).run P w= .ok v w):
  (results fn tmps).run P w= .ok (qZ #[tmps.getD t yJ,v,tmps.getD u yJ]) w:=by
 have b:tmps[p]?.getD yJ=qY (qw a):=by simpa using e
 simp[results,h,b,asAddr,d,Result.andThen]
structure ShW (w:qy) (c:Sh) (a:Option yB) (k:Nat):Prop where
 src:qIg w a c.held
 nil:a=qx->kG c.held=0/\k=0
 wf:Wf c.held
theorem ShW.below {c:Sh} (h:ShW w c a k) (d:yI B w w') (b:B=w.heap.size):ShW w' c a k:=⟨h.src.below d b,h.nil,h.wf⟩
theorem ShW.zero (w:qy):ShW w zero qx 0:=⟨qIg.nil _ _,fun _=>⟨rfl,rfl⟩,fun h b=>by cases b⟩
structure Sx (w:qy) (n:Nat) (a:Option yB) (k:Nat):Prop where
 cap:n<=k
 ty:∀g o,a=qw ⟨g,o,qx⟩->∃cs f,w.heap[g]? =qw (qm cs TH f)
theorem Sx.zero (w:qy):Sx w (kG zero.held) qx 0:=⟨qPq _,fun _ _ h=>by cases h⟩
theorem Sx.own {l:List Hd} (h:qI w B a n c l):Sx w (kG l) a c:=by
 have r:=h.len;obtain⟨_,f⟩:=h;rcases f with⟨e,f⟩|⟨g',j,m,hv,_,i,q,_⟩
 ·injection e with e _ h3
  exact⟨za,fun g o d=>by rw[e]at d;cases d⟩
 ·injection hv with d hn hc
  refine⟨za,fun g o b=> ?_⟩;rw[d]at b;injection b with b
  injection b with b
  subst b;exact⟨_,_,i⟩
noncomputable def newS (b:Int):Sh:=if right ⟨b,0,[]⟩=yD then⟨b,0,[]⟩else zero
noncomputable def newE (b:Int):Int:=if right ⟨b,0,[]⟩=yD then 0 else 1
theorem qN7 (d:Int) (w:qy):
  yC yG 135 #[qV qj d] w fun e w'=>e=qp (qZ #[zC7 (newS d) qx 0,qV qj (newE d)])/\yI w.heap.size w w':=by
 have H:=zH (fun w'=>zGf ⟨d,0,[]⟩ qx 0 w' (by unfold maxLen;simp) (qIg.nil _ _));unfold zC7 at H;go_enter func135,ntmps135;go_wp2_with fail;refine(H.out _).mono ?_;rintro e f ⟨rfl,a⟩;have m:=a.size;rw[qH6,qH6]at m;have G:w.heap.size<f.heap.size:=za
 have o:f.cell? ⟨w.heap.size,0,qx⟩=qw (qV qj 0):=by rw[a.cell (p:=⟨w.heap.size,0,qx⟩) (by rw[qH6,qH6];show w.heap.size<_;omega)];simp
 have q:f.cell? ⟨w.heap.size,1,qx⟩=qw (qV qj 0):=by rw[a.cell (p:=⟨w.heap.size,1,qx⟩) (by rw[qH6,qH6];show w.heap.size<_;omega)];simp
 have r:f.cell? ⟨w.heap.size,2,qx⟩=qw (qX qx 0 0):=by rw[a.cell (p:=⟨w.heap.size,2,qx⟩) (by rw[qH6,qH6];show w.heap.size<_;omega)];simp
 have s:f.frozen? ⟨w.heap.size,0,qx⟩=yE:=by rw[a.frozen (p:=⟨w.heap.size,0,qx⟩) (by rw[qH6,qH6];show w.heap.size<_;omega)];simp
 have t:f.frozen? ⟨w.heap.size,1,qx⟩=yE:=by rw[a.frozen (p:=⟨w.heap.size,1,qx⟩) (by rw[qH6,qH6];show w.heap.size<_;omega)];simp
 have F:f.frozen? ⟨w.heap.size,2,qx⟩=yE:=by rw[a.frozen (p:=⟨w.heap.size,2,qx⟩) (by rw[qH6,qH6];show w.heap.size<_;omega)];simp
 have I:f.cell? ⟨w.heap.size+1,0,qx⟩=qw (qV qj d):=by rw[a.cell (p:=⟨w.heap.size+1,0,qx⟩) (by rw[qH6,qH6];show w.heap.size+1<_;omega)];simp
 have K:f.cell? ⟨w.heap.size+1,1,qx⟩=qw (qV qj 0):=by rw[a.cell (p:=⟨w.heap.size+1,1,qx⟩) (by rw[qH6,qH6];show w.heap.size+1<_;omega)];simp
 have L:f.cell? ⟨w.heap.size+1,2,qx⟩=qw (qX qx 0 0):=by rw[a.cell (p:=⟨w.heap.size+1,2,qx⟩) (by rw[qH6,qH6];show w.heap.size+1<_;omega)];simp
 have HB:=zH (((yN w.heap.size w).alloc (qPq _) (qm #[qV qj 0,qV qj 0,qX qx 0 0] TS)).alloc (by rw[qH6];omega) (qm #[qV qj d,qV qj 0,qX qx 0 0] TS)|>.trans (a.mono (by rw[qH6,qH6];omega)));clear a m;by_cases g:right ⟨d,0,[]⟩=yD
 ·have h:=yP (newS d=⟨d,0,[]⟩) (by unfold newS;rw[qPr g]);have i:=yP (newE d=0) (by unfold newE;rw[qPr g]);rw[g];clear g;go_wp2;obtain⟨j,l,z2⟩:=qIl (x:=qV qj d) (y:=qV qj 0) (z:=qX qx 0 0) o q r;refine qP5 (v:=qZ #[.agg #[qV qj d,qV qj 0,qX qx 0 0],qV qj 0]) ?_ rfl ?_
  ·exact qJa (p:=2) (u:=3) (ty:=TS) rfl _ _ _ ⟨w.heap.size,0,qx⟩ _ zh (qIm _ _ _ _ _ j l z2)
  ·exact⟨by rw[h.out,i.out];rfl,Below.qI4 HB.out (qPq _) _ _ _⟩
 ·have h:=yP (newS d=zero) (by unfold newS;rw[qPt g]);have i:=yP (newE d=1) (by unfold newE;rw[qPt g]);have b:right ⟨d,0,[]⟩=yE:=by simpa using g
  rw[b];clear g b;go_wp2;obtain⟨j,l,z2⟩:=qIl (x:=qV qj 0) (y:=qV qj 0) (z:=qX qx 0 0) o q r;refine qP5 (v:=qZ #[.agg #[qV qj 0,qV qj 0,qX qx 0 0],qV qj 1]) ?_ rfl ?_
  ·exact qJa (p:=2) (u:=3) (ty:=TS) rfl _ _ _ ⟨w.heap.size,0,qx⟩ _ zh (qIm _ _ _ _ _ j l z2)
  ·exact⟨by rw[h.out,i.out];rfl,Below.qI4 HB.out (qPq _) _ _ _⟩
structure Rz (w:qy) (R:Nat):Prop where
 r0:w.cell? ⟨R,0,qx⟩=qw (qV qj 0)
 r1:w.cell? ⟨R,1,qx⟩=qw (qV qj 0)
 r2:w.cell? ⟨R,2,qx⟩=qw (qX qx 0 0)
 f0:w.frozen? ⟨R,0,qx⟩=yE
 f1:w.frozen? ⟨R,1,qx⟩=yE
 f2:w.frozen? ⟨R,2,qx⟩=yE
theorem Rz.of (h:w.heap[R]? =qw (qm #[qV qj 0,qV qj 0,qX qx 0 0] TS)):Rz w R:=by
 refine⟨?_,?_,?_,?_,?_,?_⟩<;>simp[yM,World.frozen?,h]
structure Bx (w:qy) (X:Nat) (room clock:Int) (a:Option yB) (n cap:Nat):Prop where
 x0:w.cell? ⟨X,0,qx⟩=qw (qV qj room)
 x1:w.cell? ⟨X,1,qx⟩=qw (qV qj clock)
 x2:w.cell? ⟨X,2,qx⟩=qw (qX a n cap)
theorem Bx.of {X:Nat} {d b:Int} {e:Nat} (h:w.heap[X]? =qw (qm #[qV qj d,qV qj b,qX a n e] TS)):Bx w X d b a n e:=by
 refine⟨?_,?_,?_⟩<;>simp[yM,h]
theorem qI.nil {l:List Hd} (h:qI w B a n c l) (e:a=qx):n=0/\c=0:=by
 subst e;rcases h.2 with⟨b,d⟩|⟨g,f,i,b,_⟩
 ·injection b with _ _ h3
  exact⟨d,h3⟩
 ·injection b with b;cases b
theorem Wf.put {l:List Hd} (h:Wf l) (f:qId l) (x:Hd) (d: -9223372036854775808<=x.blk) (e:x.blk<=9223372036854775807):Wf (put x l):=by
 intro y b;rcases(qIs x l f y).1 b with rfl|⟨b,_⟩
 ·exact⟨d,e⟩
 ·exact h y b
theorem qIe {p:yB} {v:qz} (h:w.cell? p=qw v) (o:Obj):(w.alloc o).cell? p=qw v:=by rw[World.cell?_alloc_some _ _ _ (by rw[h];rfl)];exact h
theorem qJp {i:Nat} {x y z:qz} (h:k≠R):(((w.setCell ⟨R,0,qx⟩ x).setCell ⟨R,1,qx⟩ y).setCell ⟨R,2,qx⟩ z).cell? ⟨k,i,qx⟩=w.cell? ⟨k,i,qx⟩:=by
 rw[qQe _ _ _ _ (by intro e;injection e with e _;exact h e.symm),qQe _ _ _ _ (by intro e;injection e with e _;exact h e.symm),qQe _ _ _ _ (by intro e;injection e with e _;exact h e.symm)]
theorem Rz.kept (h:Rz w R) (e:w'.heap[R]? =w.heap[R]?):Rz w' R:=by
 have b:∀i,w'.cell? ⟨R,i,qx⟩=w.cell? ⟨R,i,qx⟩:=fun i=>qRe e;have d:∀i,w'.frozen? ⟨R,i,qx⟩=w.frozen? ⟨R,i,qx⟩:=fun i=>qTo e;exact⟨by rw[b];exact h.r0,by rw[b];exact h.r1,by rw[b];exact h.r2,by rw[d];exact h.f0,by rw[d];exact h.f1,by rw[d];exact h.f2⟩
theorem qJf (W:qy) (b t:Nat) (l:List Hd) (c:Sh) (a:Option yB) (o:Nat) (m:Int) (r:ByteArray) (X R B:Nat) (hd:qIc W b t l) (H:t<=1000) (P:kG l<=500) (F:0<=c.clock) (G:c.clock<qIf) (y:0<=m) (z:m<=9223372036854775807)
  (L:X<B) (K:R<B) (I:B<=b) (q:Bx W X c.room c.clock a (kG c.held) o) (x:Rz W R) (w':qy) (h:yH (yI W.heap.size W w')):
  yC yG 290 #[.map (qw b),.agg #[qV qj c.room,qV qj c.clock,qX a (kG c.held) o],qV qj m,qW r] w' fun e g=>∃a' n k,e=qp (.agg #[qV qj c.room,qV qj (c.clock+1),qX a' n k])/\
   yH (qI g W.heap.size a' n k (put ⟨m,c.clock+1,r⟩ l))/\yH (yI B W g)/\yH (∀k,k<W.heap.size->k≠b->g.heap[k]? =W.heap[k]?)/\yH (Rz g R)/\yH (Bx g X c.room c.clock a (kG c.held) o):=by
 have V:=hd.lt;refine(qM3 b t B l c a o m r w' (hd.below h.out (qPq _)) H I (by have:=h.out.size;omega) P F G y z).mono ?_;rintro e g ⟨a',n,k,M,S,f,O⟩;have d:yI B W g:=(h.out.mono za).trans f;refine⟨a',n,k,M,zH (S.base h.out.size),zH d,zH (fun j N hne=>(O j (by have:=h.out.size;omega) hne).trans (h.out.block j N)),zH (x.kept (d.block R K)),zH ?_⟩;have s:∀i,g.cell? ⟨X,i,qx⟩=W.cell? ⟨X,i,qx⟩:=fun i=>qRe (d.block X L);exact⟨by rw[s];exact q.x0,by rw[s];exact q.x1,by rw[s];exact q.x2⟩
theorem zPy (c:Sh) (a:Option yB) (ar:Nat) (q:Int) (w:qy) (hm:kG c.held<=1000000) (hs:ShW w c a ar) (av: -9223372036854775808<=q) (au:q<=9223372036854775807):
  yC yG 253 #[zC7 c a ar,qV qj q] w fun e w'=>∃a' k,e=qp (qZ #[qW (take c q).1,zC7 (take c q).2.1 a' k,qV qj (take c q).2.2])/\ShW w' (take c q).2.1 a' k/\Sx w' (take c q).2.1.held.length a' k/\yI w.heap.size w w':=by
 obtain⟨W0,s⟩:=zB ((w.alloc (qm #[qV qj c.room,qV qj c.clock,qX a (kG c.held) ar] TS)).alloc (qm #[qV qj 0,qV qj 0,qX qx 0 0] TS));have a6:W0.heap.size=w.heap.size+2:=by rw[<-s,qH6,qH6]
 have G:yI w.heap.size w W0:=by rw[<-s];exact((yN _ w).alloc (qPq _) _).alloc (by rw[qH6];omega) _
 have M:W0.heap[w.heap.size]? =qw (qm #[qV qj c.room,qV qj c.clock,qX a (kG c.held) ar] TS):=by
  rw[<-s,Below.heap_alloc _ _ _ (by rw[qH6];omega)];exact World.alloc_heap_new _ _
 have a7:W0.heap[w.heap.size+1]? =qw (qm #[qV qj 0,qV qj 0,qX qx 0 0] TS):=by
  rw[<-s];have h:=World.alloc_heap_new (w.alloc (qm #[qV qj c.room,qV qj c.clock,qX a (kG c.held) ar] TS)) (qm #[qV qj 0,qV qj 0,qX qx 0 0] TS);rwa[qH6]at h
 obtain⟨x0,x1,x2⟩:=Bx.of M;obtain⟨HR,aj,ap,X,HS,K⟩:=yU (zGf c a ar W0 (by unfold maxLen;omega) (hs.src.below G rfl)) M a7 G hs a6;clear M a7 G hs a6;unfold zC7 at HR;rw[show zC7 c a ar= .agg #[qV qj c.room,qV qj c.clock,qX a (kG c.held) ar]from rfl];go_enter func253,ntmps253;go_wp2_with fail;refine HR.out.mono ?_;rintro e W ⟨rfl,m⟩;have i:W.heap[w.heap.size]? =qw (qm #[qV qj c.room,qV qj c.clock,qX a (kG c.held) ar] TS):=(m.block _ (by rw[K.out];omega)).trans aj.out;have g:W.heap[w.heap.size+1]? =qw (qm #[qV qj 0,qV qj 0,qX qx 0 0] TS):=(m.block _ (by rw[K.out];omega)).trans ap.out;have az:w.heap.size+2<=W.heap.size:=by have:=m.size;rw[K.out]at this;exact this
 obtain⟨y0,y1,y2⟩:=Bx.of i;obtain⟨r0,r1,r2,f0,f1,f2⟩:=Rz.of g;obtain⟨ai,af,a8,P⟩:=yS i g (X.out.trans (m.mono (by rw[K.out];omega))) ((HS.out.below X.out rfl).below m rfl);clear m i g x0 x1 x2 s;by_cases hr:right c=yD
 ·have N:=zH hr;have hg:=(zIu c).1 hr;unfold Right at hg;have ax:kG c.held<=64:=za
  have F:=zH hg;rw[hr];clear hr hg;have a2:=zH (zXe c a ar W za F.out.2.2.2.2.2.2.1 P.out.wf P.out.src);unfold zC7 at a2;go_wp2_with fail;refine a2.out.mono ?_;rintro e W2 ⟨b,rfl,I,r,B⟩;have d:=r.look q av au;have i:W2.heap[w.heap.size]? =W.heap[w.heap.size]? :=B.block _ za;have g:W2.heap[w.heap.size+1]? =W.heap[w.heap.size+1]? :=B.block _ za;rw[ai.out]at i;rw[af.out]at g;obtain⟨O,an⟩:=yQ (Bx.of i) (Rz.of g);obtain⟨y0,y1,y2⟩:=Bx.of i;obtain⟨r0,r1,r2,f0,f1,f2⟩:=Rz.of g;have b0:W.heap.size<=W2.heap.size:=B.size;have b1:w.heap.size<W2.heap.size:=za
  have ag:w.heap.size+1<W2.heap.size:=za
  obtain⟨S,a5,ao⟩:=yR (a8.out.trans (B.mono za)) r I;clear i g B r I;rcases hf:find q c.held with _|h
  ·have E:=yP (take c q=(⟨#[]⟩,zero,5)) (by unfold take;rw[qPr N.out,hf]);rw[hf]at d;simp only[Option.getD_none,Option.isSome_none,hval,qJe]at d;clear hf;go_wp2;obtain⟨z0,z1,z2⟩:=qIl (w:=W2) (R:=w.heap.size+1) (x:=qV qj 0) (y:=qV qj 0) (z:=qX qx 0 0) r0 r1 r2;refine qP5 (v:=qZ #[qW ⟨#[]⟩,.agg #[qV qj 0,qV qj 0,qX qx 0 0],qV qj 5]) ?_ rfl ?_
   ·exact qIh (t:=4) (p:=5) (u:=6) (ty:=TS) rfl _ _ _ ⟨w.heap.size+1,0,qx⟩ _ zh (qIm _ _ _ _ _ (qIe z0 _) (qIe z1 _) (qIe z2 _))
   ·exact⟨qx,0,by rw[E.out];rfl,by rw[E.out];exact ShW.zero _,by rw[E.out];exact Sx.zero _,(Below.qI4 S.out za _ _ _).alloc zq _⟩
  ·by_cases j:c.clock=qIf
   ·have E:=yP (take c q=(⟨#[]⟩,zero,4)) (by unfold take;rw[qPr N.out,hf];simp only;rw[qPr j]);rw[hf]at d;simp only[qQ4,Option.isSome_some,hval]at d;clear hf;unfold qIf at j;rw[j]at y1;have ay:=zH j;clear j;go_wp2;obtain⟨z0,z1,z2⟩:=qIl (w:=W2) (R:=w.heap.size+1) (x:=qV qj 0) (y:=qV qj 0) (z:=qX qx 0 0) r0 r1 r2;refine qP5 (v:=qZ #[qW ⟨#[]⟩,.agg #[qV qj 0,qV qj 0,qX qx 0 0],qV qj 4]) ?_ rfl ?_
    ·exact qIh (t:=4) (p:=5) (u:=6) (ty:=TS) rfl _ _ _ ⟨w.heap.size+1,0,qx⟩ _ zh (qIm _ _ _ _ _ (qIe z0 _) (qIe z1 _) (qIe z2 _))
    ·exact⟨qx,0,by rw[E.out];rfl,by rw[E.out];exact ShW.zero _,by rw[E.out];exact Sx.zero _,(Below.qI4 S.out za _ _ _).alloc zq _⟩
   ·have E:=yP (take c q=(h.txt,after c c.held q h.txt,0)) (by unfold take;rw[qPr N.out,hf];simp only;rw[qPt j]);rw[hf]at d;simp only[qQ4,Option.isSome_some,hval]at d;obtain⟨V,aa⟩:=qIb hf;have ad:0<=q:=by rw[<-aa];exact(F.out.2.2.2.2.2.1 h V).1
    have HF:=zH hf;unfold qIf at j;clear hf V aa;obtain⟨W3,l⟩:=zB (W2.alloc (qIk h));have a3:W3.heap.size=W2.heap.size+1:=by rw[<-l,qH6]
    have ab:Bx W3 w.heap.size c.room c.clock a (kG c.held) ar:=by rw[<-l];exact⟨qIe O.out.x0 _,qIe O.out.x1 _,qIe O.out.x2 _⟩
    have Y:Rz W3 (w.heap.size+1):=by rw[<-l];exact an.out.kept (Below.heap_alloc _ _ _ ag)
    have ah:W3.cell? ⟨W2.heap.size,2,qx⟩=qw (qW h.txt):=by rw[<-l];exact(qIo.new W2 h).at_.2.2
    have a9:qIc W3 b (kG c.held) c.held:=by rw[<-l];exact a5.out.alloc _
    have a4:yI w.heap.size w W3:=by rw[<-l];exact S.out.alloc za _
    have ae:=a5.out.lt;have I:=ao.out;have a1:=qJf W3 b (kG c.held) c.held c a ar q h.txt w.heap.size (w.heap.size+1) (w.heap.size+2) a9 za za F.out.2.2.1 (by have:=F.out.2.2.2.1;unfold qIf at this⊢;omega) ad au za za za ab Y;have f:∀w',yH (yI W3.heap.size W3 w')->yC yG 290 #[.map (qw b),.agg #[qV qj c.room,qV qj c.clock,qX a (kG c.held) ar],qV qj q,qW h.txt] w' fun e w1=>∃a' n k,e=qp (.agg #[qV qj c.room,qV qj (c.clock+1),qX a' n k])/\
      (w1.cell? ⟨W2.heap.size,2,qx⟩=qw (qW h.txt)/\w1.cell? ⟨w.heap.size,0,qx⟩=qw (qV qj c.room)/\w1.cell? ⟨w.heap.size,1,qx⟩=qw (qV qj c.clock)/\w1.cell? ⟨w.heap.size,2,qx⟩=qw (qX a (kG c.held) ar))/\
      (w1.cell? ⟨w.heap.size+1,0,qx⟩=qw (qV qj 0)/\w1.cell? ⟨w.heap.size+1,1,qx⟩=qw (qV qj 0)/\w1.cell? ⟨w.heap.size+1,2,qx⟩=qw (qX qx 0 0)/\w1.frozen? ⟨w.heap.size+1,0,qx⟩=yE/\w1.frozen? ⟨w.heap.size+1,1,qx⟩=yE/\w1.frozen? ⟨w.heap.size+1,2,qx⟩=yE)/\
      yH (qI w1 W3.heap.size a' n k (put ⟨q,c.clock+1,h.txt⟩ c.held))/\yH (yI w.heap.size w w1):=fun w' hb=>
     (a1 w' hb).mono fun e w1 ⟨a',n,k,he,p1,p2,p3,p4,p5⟩=>⟨a',n,k,he,⟨by rw[qRe (a:=⟨W2.heap.size,2,qx⟩) (p3.out W2.heap.size za za)];exact ah,p5.out.x0,p5.out.x1,p5.out.x2⟩,⟨p4.out.r0,p4.out.r1,p4.out.r2,p4.out.f0,p4.out.f1,p4.out.f2⟩,p1,zH (a4.trans (p2.out.mono za))⟩
    obtain⟨y0,y1,y2⟩:=ab;obtain⟨r0,r1,r2,f0,f1,f2⟩:=Y;obtain⟨aq,ak,am⟩:=yR f ((yN W3.heap.size W3).drew) a3;have hne:W2.heap.size≠w.heap.size+1:=za
    have H:w.heap.size≠w.heap.size+1:=za
    clear f a1 a9 a4 a3 ae I;go_wp2_with fail;go_region_held3 (fun w'=>w'.cell? ⟨W2.heap.size,2,qx⟩=qw (qW h.txt)/\w'.cell? ⟨w.heap.size,0,qx⟩=qw (qV qj c.room)/\w'.cell? ⟨w.heap.size,1,qx⟩=qw (qV qj c.clock)/\w'.cell? ⟨w.heap.size,2,qx⟩=qw (qX a (kG c.held) ar))
     (first|assumption|(refine⟨?_,?_,?_,?_⟩<;>assumption)|(exact⟨(qJp hne).trans (by assumption),(qJp H).trans (by assumption),(qJp H).trans (by assumption),(qJp H).trans (by assumption)⟩)|go_keep)
     (first|(go_at_call 290;refine(aq.out _ ak).mono ?_;rintro e b2 ⟨a',n,k,rfl,⟨t0,t1,t2,t3⟩,⟨s0,s1,s2,s3,s4,s5⟩,f,ac⟩))
    have L:=f.out.len;have o:w.heap.size+1<W3.heap.size:=by rw[am.out];omega
    have Z:=zH L;clear L;go_wp2;obtain⟨z0,z1,z2⟩:=qIl (x:=qV qj c.room) (y:=qV qj (c.clock+1)) (z:=qX a' n k) s0 s1 s2;refine qP5 (v:=qZ #[qW h.txt,.agg #[qV qj c.room,qV qj (c.clock+1),qX a' n k],qV qj 0]) ?_ rfl ?_
    ·exact qIh (t:=4) (p:=5) (u:=6) (ty:=TS) rfl _ _ _ ⟨w.heap.size+1,0,qx⟩ _ zh (qIm _ _ _ _ _ z0 z1 z2)
    ·refine⟨a',k,?_,?_,?_,Below.qI4 ac.out za _ _ _⟩
     ·rw[E.out];unfold zC7 after;simp only;rw[Z.out]
     ·rw[E.out];exact⟨(((f.out.set o _).set o _).set o _).src,fun ha=>⟨Z.out.trans (f.out.nil ha).1,(f.out.nil ha).2⟩,P.out.wf.put F.out.2.2.2.2.2.2.1 _ av au⟩
     ·rw[E.out];exact Sx.own (((f.out.set o _).set o _).set o _)
 ·have a0:right c=yE:=by simpa using hr
  have E:=yP (take c q=(⟨#[]⟩,zero,1)) (by unfold take;rw[qPt hr]);rw[a0];clear hr a0;go_wp2;obtain⟨z0,z1,z2⟩:=qIl (x:=qV qj 0) (y:=qV qj 0) (z:=qX qx 0 0) r0 r1 r2;refine qP5 (v:=qZ #[qW ⟨#[]⟩,.agg #[qV qj 0,qV qj 0,qX qx 0 0],qV qj 1]) ?_ rfl ?_
  ·exact qIh (t:=4) (p:=5) (u:=6) (ty:=TS) rfl _ _ _ ⟨w.heap.size+1,0,qx⟩ _ zh (qIm _ _ _ _ _ z0 z1 z2)
  ·exact⟨qx,0,by rw[E.out];rfl,by rw[E.out];exact ShW.zero _,by rw[E.out];exact Sx.zero _,Below.qI4 a8.out za _ _ _⟩
end Cache
namespace Cache
open Go.Shelf
theorem qKc (c:Sh) (a:Option yB) (c6:Nat) (bz:Int) (c7:ByteArray) (w:qy) (hm:kG c.held<=1000000) (hs:ShW w c a c6) (ca: -9223372036854775808<=bz) (c8:bz<=9223372036854775807):
  yC yG 258 #[zC7 c a c6,qV qj bz,qW c7] w fun e w'=>∃a' k,e=qp (qZ #[qV qj (keep c bz c7).1,zC7 (keep c bz c7).2.1 a' k,qV qj (keep c bz c7).2.2])/\ShW w' (keep c bz c7).2.1 a' k/\Sx w' (keep c bz c7).2.1.held.length a' k/\yI w.heap.size w w':=by
 obtain⟨W0,a3⟩:=zB ((w.alloc (qm #[qV qj c.room,qV qj c.clock,qX a (kG c.held) c6] TS)).alloc (qm #[qV qj 0,qV qj 0,qX qx 0 0] TS));have b6:W0.heap.size=w.heap.size+2:=by rw[<-a3,qH6,qH6]
 have aa:yI w.heap.size w W0:=by rw[<-a3];exact((yN _ w).alloc (qPq _) _).alloc (by rw[qH6];omega) _
 have ah:W0.heap[w.heap.size]? =qw (qm #[qV qj c.room,qV qj c.clock,qX a (kG c.held) c6] TS):=by
  rw[<-a3,Below.heap_alloc _ _ _ (by rw[qH6];omega)];exact World.alloc_heap_new _ _
 have b7:W0.heap[w.heap.size+1]? =qw (qm #[qV qj 0,qV qj 0,qX qx 0 0] TS):=by
  rw[<-a3];have h:=World.alloc_heap_new (w.alloc (qm #[qV qj c.room,qV qj c.clock,qX a (kG c.held) c6] TS)) (qm #[qV qj 0,qV qj 0,qX qx 0 0] TS);rwa[qH6]at h
 obtain⟨x0,x1,x2⟩:=Bx.of ah;obtain⟨HR,bq,bx,b9,HS,ac⟩:=yU (zGf c a c6 W0 (by unfold maxLen;omega) (hs.src.below aa rfl)) ah b7 aa hs b6;clear ah b7 aa hs b6;unfold zC7 at HR;rw[show zC7 c a c6= .agg #[qV qj c.room,qV qj c.clock,qX a (kG c.held) c6]from rfl];go_enter func258,ntmps258;go_wp2_with fail;refine HR.out.mono ?_;rintro e W ⟨rfl,S⟩;have L:W.heap[w.heap.size]? =qw (qm #[qV qj c.room,qV qj c.clock,qX a (kG c.held) c6] TS):=(S.block _ (by rw[ac.out];omega)).trans bq.out;have N:W.heap[w.heap.size+1]? =qw (qm #[qV qj 0,qV qj 0,qX qx 0 0] TS):=(S.block _ (by rw[ac.out];omega)).trans bx.out;have cp:w.heap.size+2<=W.heap.size:=by have:=S.size;rw[ac.out]at this;exact this
 obtain⟨y0,y1,y2⟩:=Bx.of L;obtain⟨r0,r1,r2,f0,f1,f2⟩:=Rz.of N;obtain⟨bp,bi,af,a7⟩:=yS L N (b9.out.trans (S.mono (by rw[ac.out];omega))) ((HS.out.below b9.out rfl).below S rfl);clear S L N x0 x1 x2 a3;by_cases hr:right c=yD/\0<=bz
 ·obtain⟨hr,M⟩:=hr;have aj:=zH hr;have hg:=(zIu c).1 hr;unfold Right at hg;have cc:kG c.held<=64:=za
  have g:=zH hg;rw[hr];clear hr hg;by_cases I:c.clock=qIf
  ·have E:=yP (keep c bz c7=(0,zero,4)) (by unfold keep;rw[qPr ⟨aj.out,M⟩,qPr I]);unfold qIf at I;rw[I]at y1;have ce:=zH I;clear I;go_wp2;obtain⟨z0,z1,z2⟩:=qIl (x:=qV qj 0) (y:=qV qj 0) (z:=qX qx 0 0) r0 r1 r2;refine qP5 (v:=qZ #[qV qj 0,.agg #[qV qj 0,qV qj 0,qX qx 0 0],qV qj 4]) ?_ rfl ?_
   ·exact qIh (t:=6) (p:=7) (u:=8) (ty:=TS) rfl _ _ _ ⟨w.heap.size+1,0,qx⟩ _ zh (qIm _ _ _ _ _ z0 z1 z2)
   ·exact⟨qx,0,by rw[E.out];rfl,by rw[E.out];exact ShW.zero _,by rw[E.out];exact Sx.zero _,Below.qI4 af.out za _ _ _⟩
  ·have E:=yP (keep c bz c7=(goes c bz,after c (drop (goes c bz) c.held) bz c7,0)) (by unfold keep;rw[qPr ⟨aj.out,M⟩,qPt I]);have b5:=zH (zXe c a c6 W za g.out.2.2.2.2.2.2.1 a7.out.wf a7.out.src);unfold zC7 at b5;have cf:=zH I;unfold qIf at I;go_wp2_with fail;refine b5.out.mono ?_;rintro e W2 ⟨b,rfl,K,a0,a2⟩;have l:=a0.look bz ca c8;have L:W2.heap[w.heap.size]? =W.heap[w.heap.size]? :=a2.block _ za;have N:W2.heap[w.heap.size+1]? =W.heap[w.heap.size+1]? :=a2.block _ za;rw[bp.out]at L;rw[bi.out]at N;obtain⟨f,am⟩:=yQ (Bx.of L) (Rz.of N);have cq:W.heap.size<=W2.heap.size:=a2.size;have ct:w.heap.size<W2.heap.size:=za
   have ay:w.heap.size+1<W2.heap.size:=za
   obtain⟨ao,r,b2⟩:=yR (af.out.trans (a2.mono za)) a0 K;clear L N a2 a0 K y0 y1 y2 r0 r1 r2 f0 f1 f2;rcases hf:find bz c.held with _|h
   ·by_cases a1:(kG c.held:Int)=c.room
    ·rw[hf]at l;simp only[Option.getD_none,Option.isSome_none,hval,qJe]at l;obtain⟨q,d⟩:=zB (W2.alloc (qIk qJe));have ad:q.heap.size=W2.heap.size+1:=by rw[<-d,qH6]
     have Y:(Builtin.len_ #[TD] 3 #[.map (qw b)]).run yG (W2.alloc (qm #[qV qj 0,qV qj 0,qW ⟨#[]⟩] TH))= .ok (qV qj (kG c.held)) (W2.alloc (qm #[qV qj 0,qV qj 0,qW ⟨#[]⟩] TH)):=(r.out.alloc _).len _;have au:(W2.alloc (qm #[qV qj 0,qV qj 0,qW ⟨#[]⟩] TH)).cell? ⟨w.heap.size,0,qx⟩=qw (qV qj c.room):=qIe f.out.x0 _;have b3:(W2.alloc (qm #[qV qj 0,qV qj 0,qW ⟨#[]⟩] TH)).cell? ⟨w.heap.size,1,qx⟩=qw (qV qj c.clock):=qIe f.out.x1 _;have b0:(W2.alloc (qm #[qV qj 0,qV qj 0,qW ⟨#[]⟩] TH)).cell? ⟨w.heap.size,2,qx⟩=qw (qX a (kG c.held) c6):=qIe f.out.x2 _;obtain⟨ax,b4,bw⟩:=yR d a1 hf;have R:=yP (yI w.heap.size w q) (by rw[<-d];exact ao.out.alloc za _);have H:Bx q w.heap.size c.room c.clock a (kG c.held) c6:=by rw[<-d];exact⟨qIe f.out.x0 _,qIe f.out.x1 _,qIe f.out.x2 _⟩
     have o:Rz q (w.heap.size+1):=by rw[<-d];exact am.out.kept (Below.heap_alloc _ _ _ ay)
     have F:qIc q b (kG c.held) c.held:=by rw[<-d];exact r.out.alloc _
     obtain⟨bk,ar,bo,bj⟩:=yS (HS.out.src.below R.out rfl) H o F;have HO:=zH (zOm c a c6 q hm bk.out);unfold zC7 at HO;clear d hf H o F;go_wp2_with fail;rw[show W2.alloc (qm #[qV qj 0,qV qj 0,qW ⟨#[]⟩] TH)=q from ax.out];clear Y au b3 b0;refine HO.out.mono ?_;rintro e W4 ⟨a4,n4,k4,rfl,b1,X⟩;have Z:order c=(ord c.held).map Hd.blk:=by unfold order;rw[qPr aj.out]
     have br:n4=kG c.held:=by rw[<-b1.len,qQi,Z,qQi,qJr]
     have bn:0<kG c.held:=by have:=g.out.1;have:=b4.out;omega
     obtain⟨g4,bh,cn,bg,bf,ak,_⟩:=b1.at_ za;subst bh;subst br;obtain⟨m,V⟩:∃m,kG c.held=m+1:=⟨kG c.held-1,za⟩;have ae:kG (order c)=m+1:=by rw[Z,qQi,qJr,V]
     obtain⟨G,hG⟩:=zB (goes c bz);have an:G∈order c/\(order c)[m]? =qw G:=by
      have hne:order c≠[]:=by intro e;rw[e]at ae;simp at ae
      have e1:goes c bz=(order c).getLast hne:=by
       unfold goes;rw[qPr ⟨by rw[bw.out];rfl,b4.out⟩,List.getLastD_eq_getLast?,List.getLast?_eq_some_getLast hne];rfl
      rw[<-hG,e1];refine⟨List.getLast_mem hne,?_⟩;rw[List.getLast_eq_getElem,qPu za];simp[ae]
     have cm:W4.cell? ⟨g4,m,qx⟩=qw (qV qj G):=by rw[ak m za,qP2,an.2];rfl
     have bd:∃x∈c.held,x.blk=G:=by
      have h:=an.1;rw[Z]at h;obtain⟨x,hx,e⟩:=qQf.1 h;exact⟨x,(qJd c.held).subset hx,e⟩
     have ba: -9223372036854775808<=G/\G<=9223372036854775807:=by
      obtain⟨x,hx,e⟩:=bd;rw[<-e];exact HS.out.wf x hx
     obtain⟨W5,b8,ai,ag⟩:=(bj.out.below X (qPq _)).del G ba.1 ba.2 3;have cb:=r.out.lt;have cr:=X.size;have ab:=ag.grown;have av:∀k,k<q.heap.size->k≠b->W5.heap[k]? =q.heap[k]? :=fun k hk hne=>(ab.block k za (fun e=>by injection e with e;exact hne e)).trans (X.block k hk);have K:=b2.out;have ap:Bx W5 w.heap.size c.room c.clock a (kG c.held) c6:=by
      have hc:∀i,W5.cell? ⟨w.heap.size,i,qx⟩=q.cell? ⟨w.heap.size,i,qx⟩:=fun i=>qRe (av w.heap.size za za);exact⟨by rw[hc];exact ar.out.x0,by rw[hc];exact ar.out.x1,by rw[hc];exact ar.out.x2⟩
     have az:Rz W5 (w.heap.size+1):=bo.out.kept (av (w.heap.size+1) za za);have bb:yI w.heap.size w W5:=R.out.trans ((X.mono za).trans (qI5 (B:=w.heap.size) ag za za));obtain⟨ck,cj,bu,cg,ci,HG,cd⟩:=yV ap az bb ai V hG X;have co:m<=63:=za
     have cs:=ab.size;have O:=zH (qJf W5 b (kG c.held) (drop G c.held) c a c6 bz c7 w.heap.size (w.heap.size+1) (w.heap.size+2) ai za (by have:=drop_length c.held g.out.2.2.2.2.2.2.1 G;omega) g.out.2.2.1 (by have:=g.out.2.2.2.1;unfold qIf at this⊢;omega) M c8 za za za ap az W5 (zH (yN _ _)));rw[V]at O;obtain⟨y0,y1,y2⟩:=ap;rw[V]at y2;have P:w.heap.size+1<W5.heap.size:=za
     clear az bb ai ab av ag Z b1 ak bg X bf an bd ae hG bn;rw[V];clear V;go_wp2_with (at_delete;refine del_eq rfl _ _ 416 3 rfl rfl rfl b8 ?_);clear b8;rw[HG.out]at E;refine O.out.mono ?_;rintro e bc ⟨a',n,k,rfl,p1,p2,p3,p4,p5⟩;obtain⟨r0,r1,r2,f0,f1,f2⟩:=p4.out;obtain⟨s,a6⟩:=yQ p1.out.len (bu.out.trans (p2.out.mono za));go_wp2;obtain⟨z0,z1,z2⟩:=qIl (x:=qV qj c.room) (y:=qV qj (c.clock+1)) (z:=qX a' n k) r0 r1 r2;refine qP5 (v:=qZ #[qV qj G,.agg #[qV qj c.room,qV qj (c.clock+1),qX a' n k],qV qj 0]) ?_ rfl ?_
     ·exact qIh (t:=6) (p:=7) (u:=8) (ty:=TS) rfl _ _ _ ⟨w.heap.size+1,0,qx⟩ _ zh (qIm _ _ _ _ _ z0 z1 z2)
     ·refine⟨a',k,?_,?_,?_,Below.qI4 a6.out za _ _ _⟩
      ·rw[E.out];unfold zC7 after;simp only;rw[s.out]
      ·rw[E.out];exact⟨(((p1.out.set P _).set P _).set P _).src,fun ha=>⟨s.out.trans (p1.out.nil ha).1,(p1.out.nil ha).2⟩,Wf.put (fun x hx=>a7.out.wf x (qI1.1 hx).1) (g.out.2.2.2.2.2.2.1.drop G) _ ca c8⟩
      ·rw[E.out];exact Sx.own (((p1.out.set P _).set P _).set P _)
    ·have a8:goes c bz= -1:=by unfold goes;rw[qPt (fun h=>a1 h.2)]
     have a9:drop (-1) c.held=c.held:=qI9 _ _ (fun x hx=>by have:=(g.out.2.2.2.2.2.1 x hx).1;omega);rw[a8,a9]at E;rw[hf]at l;simp only[Option.getD_none,Option.isSome_none,hval,qJe]at l;clear hf a8 a9;obtain⟨q,d⟩:=zB (W2.alloc (qIk qJe));have ad:q.heap.size=W2.heap.size+1:=by rw[<-d,qH6]
     have H:Bx q w.heap.size c.room c.clock a (kG c.held) c6:=by rw[<-d];exact⟨qIe f.out.x0 _,qIe f.out.x1 _,qIe f.out.x2 _⟩
     have o:Rz q (w.heap.size+1):=by rw[<-d];exact am.out.kept (Below.heap_alloc _ _ _ ay)
     have F:qIc q b (kG c.held) c.held:=by rw[<-d];exact r.out.alloc _
     have R:=yP (yI w.heap.size w q) (by rw[<-d];exact ao.out.alloc za _);have aq:=r.out.lt;have K:=b2.out;have O:=zH (qJf q b (kG c.held) c.held c a c6 bz c7 w.heap.size (w.heap.size+1) (w.heap.size+2) F za za g.out.2.2.1 (by have:=g.out.2.2.2.1;unfold qIf at this⊢;omega) M c8 za za za H o q (zH (yN _ _)));obtain⟨y0,y1,y2⟩:=H;have j:w.heap.size+1<q.heap.size:=za
     clear o ad aq K;have Y:(Builtin.len_ #[TD] 3 #[.map (qw b)]).run yG (W2.alloc (qm #[qV qj 0,qV qj 0,qW ⟨#[]⟩] TH))= .ok (qV qj (kG c.held)) (W2.alloc (qm #[qV qj 0,qV qj 0,qW ⟨#[]⟩] TH)):=(r.out.alloc _).len _;have au:(W2.alloc (qm #[qV qj 0,qV qj 0,qW ⟨#[]⟩] TH)).cell? ⟨w.heap.size,0,qx⟩=qw (qV qj c.room):=qIe f.out.x0 _;have b3:(W2.alloc (qm #[qV qj 0,qV qj 0,qW ⟨#[]⟩] TH)).cell? ⟨w.heap.size,1,qx⟩=qw (qV qj c.clock):=qIe f.out.x1 _;have b0:(W2.alloc (qm #[qV qj 0,qV qj 0,qW ⟨#[]⟩] TH)).cell? ⟨w.heap.size,2,qx⟩=qw (qX a (kG c.held) c6):=qIe f.out.x2 _;have ax:=zH d;clear d;clear F;have b4:=a1;go_wp2_with fail;rw[show W2.alloc (qm #[qV qj 0,qV qj 0,qW ⟨#[]⟩] TH)=q from ax.out];clear Y au b3 b0;refine O.out.mono ?_;rintro e bc ⟨a',n,k,rfl,p1,p2,p3,p4,p5⟩;obtain⟨r0,r1,r2,f0,f1,f2⟩:=p4.out;obtain⟨s,a6⟩:=yQ p1.out.len (R.out.trans (p2.out.mono za));go_wp2;obtain⟨z0,z1,z2⟩:=qIl (x:=qV qj c.room) (y:=qV qj (c.clock+1)) (z:=qX a' n k) r0 r1 r2;refine qP5 (v:=qZ #[qV qj (-1),.agg #[qV qj c.room,qV qj (c.clock+1),qX a' n k],qV qj 0]) ?_ rfl ?_
     ·exact qIh (t:=6) (p:=7) (u:=8) (ty:=TS) rfl _ _ _ ⟨w.heap.size+1,0,qx⟩ _ zh (qIm _ _ _ _ _ z0 z1 z2)
     ·refine⟨a',k,?_,?_,?_,Below.qI4 a6.out za _ _ _⟩
      ·rw[E.out];unfold zC7 after;simp only;rw[s.out]
      ·rw[E.out];exact⟨(((p1.out.set j _).set j _).set j _).src,fun ha=>⟨s.out.trans (p1.out.nil ha).1,(p1.out.nil ha).2⟩,a7.out.wf.put g.out.2.2.2.2.2.2.1 _ ca c8⟩
      ·rw[E.out];exact Sx.own (((p1.out.set j _).set j _).set j _)
   ·have a8:goes c bz= -1:=by unfold goes;rw[hf];simp
    have a9:drop (-1) c.held=c.held:=qI9 _ _ (fun x hx=>by have:=(g.out.2.2.2.2.2.1 x hx).1;omega);rw[a8,a9]at E;rw[hf]at l;simp only[qQ4,Option.isSome_some,hval]at l;clear hf a8 a9;obtain⟨q,d⟩:=zB (W2.alloc (qIk h));have ad:q.heap.size=W2.heap.size+1:=by rw[<-d,qH6]
    have H:Bx q w.heap.size c.room c.clock a (kG c.held) c6:=by rw[<-d];exact⟨qIe f.out.x0 _,qIe f.out.x1 _,qIe f.out.x2 _⟩
    have o:Rz q (w.heap.size+1):=by rw[<-d];exact am.out.kept (Below.heap_alloc _ _ _ ay)
    have F:qIc q b (kG c.held) c.held:=by rw[<-d];exact r.out.alloc _
    have R:=yP (yI w.heap.size w q) (by rw[<-d];exact ao.out.alloc za _);have aq:=r.out.lt;have K:=b2.out;have O:=zH (qJf q b (kG c.held) c.held c a c6 bz c7 w.heap.size (w.heap.size+1) (w.heap.size+2) F za za g.out.2.2.1 (by have:=g.out.2.2.2.1;unfold qIf at this⊢;omega) M c8 za za za H o q (zH (yN _ _)));obtain⟨y0,y1,y2⟩:=H;have j:w.heap.size+1<q.heap.size:=za
    clear o F ad aq K;go_wp2_with fail;refine O.out.mono ?_;rintro e bc ⟨a',n,k,rfl,p1,p2,p3,p4,p5⟩;obtain⟨r0,r1,r2,f0,f1,f2⟩:=p4.out;obtain⟨s,a6⟩:=yQ p1.out.len (R.out.trans (p2.out.mono za));go_wp2;obtain⟨z0,z1,z2⟩:=qIl (x:=qV qj c.room) (y:=qV qj (c.clock+1)) (z:=qX a' n k) r0 r1 r2;refine qP5 (v:=qZ #[qV qj (-1),.agg #[qV qj c.room,qV qj (c.clock+1),qX a' n k],qV qj 0]) ?_ rfl ?_
    ·exact qIh (t:=6) (p:=7) (u:=8) (ty:=TS) rfl _ _ _ ⟨w.heap.size+1,0,qx⟩ _ zh (qIm _ _ _ _ _ z0 z1 z2)
    ·refine⟨a',k,?_,?_,?_,Below.qI4 a6.out za _ _ _⟩
     ·rw[E.out];unfold zC7 after;simp only;rw[s.out]
     ·rw[E.out];exact⟨(((p1.out.set j _).set j _).set j _).src,fun ha=>⟨s.out.trans (p1.out.nil ha).1,(p1.out.nil ha).2⟩,a7.out.wf.put g.out.2.2.2.2.2.2.1 _ ca c8⟩
     ·rw[E.out];exact Sx.own (((p1.out.set j _).set j _).set j _)
 ·have E:=yP (keep c bz c7=(0,zero,1)) (by unfold keep;rw[qPt hr]);have a5:right c=yE\/bz<0:=by
   by_cases h:right c=yD
   ·right;have:¬0<=bz:=fun h2=>hr ⟨h,h2⟩;omega
   ·left;simpa using h
  clear hr;rcases a5 with a5|a5
  ·rw[a5];clear a5;go_wp2;obtain⟨z0,z1,z2⟩:=qIl (x:=qV qj 0) (y:=qV qj 0) (z:=qX qx 0 0) r0 r1 r2;refine qP5 (v:=qZ #[qV qj 0,.agg #[qV qj 0,qV qj 0,qX qx 0 0],qV qj 1]) ?_ rfl ?_
   ·exact qIh (t:=6) (p:=7) (u:=8) (ty:=TS) rfl _ _ _ ⟨w.heap.size+1,0,qx⟩ _ zh (qIm _ _ _ _ _ z0 z1 z2)
   ·exact⟨qx,0,by rw[E.out];rfl,by rw[E.out];exact ShW.zero _,by rw[E.out];exact Sx.zero _,Below.qI4 af.out za _ _ _⟩
  ·rcases hrc:right c with _|_
   all_goals
    go_wp2;obtain⟨z0,z1,z2⟩:=qIl (x:=qV qj 0) (y:=qV qj 0) (z:=qX qx 0 0) r0 r1 r2;refine qP5 (v:=qZ #[qV qj 0,.agg #[qV qj 0,qV qj 0,qX qx 0 0],qV qj 1]) ?_ rfl ?_
    ·exact qIh (t:=6) (p:=7) (u:=8) (ty:=TS) rfl _ _ _ ⟨w.heap.size+1,0,qx⟩ _ zh (qIm _ _ _ _ _ z0 z1 z2)
    ·exact⟨qx,0,by rw[E.out];rfl,by rw[E.out];exact ShW.zero _,by rw[E.out];exact Sx.zero _,Below.qI4 af.out za _ _ _⟩
end Cache
end Go.Proofs.YtppnakkaljbmbaaGreatDoor
