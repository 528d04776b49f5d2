/- Steps of a proof; no condition beyond what each states. -/
import Derived.Test.YtppnakkaljbmbaaGreatDoorZY00
import Derived.Shelf.Small.Strs
import Derived.Shelf.Strconv.Atoi
import Derived.Shelf.Strconv.Itoa3
import Derived.Shelf.Strings.OnBuilder
import Derived.Shelf.Strings.Split
import Derived.Test.YtppnakkaljbmbaaGreatDoorZY04
set_option linter.unusedVariables false
set_option linter.unusedSimpArgs false
set_option maxRecDepth 100000
set_option maxHeartbeats 8000000
open List renaming length->kN
open Go.Proofs.YtppnakkaljbmbaaGreatDoor.Kit renaming Src->yt,Own->yu,zAg->yw,zAr->xG
open Go.Proofs.YtppnakkaljbmbaaGreatDoor.Crc renaming sum->xD,U->xJ,fold->kE
open Go.RowKit
open Go.Proofs.Tryz
open Go.Value renaming int->qX,string->qY,slice->qZ,pointer->qc,tuple->qg,bool->qh
open Go.IntKind renaming i64->qm,u8->qo
open Go.Obj renaming cells->qp,deferred->qw
open Go.Ending renaming returned->qx
open Or renaming inr->qy,inl->qz
open Option renaming some->yA,none->yB
open Go renaming World->yC,Value->yD,TypeId->yE,Addr->yF,Calls->yG,undef->yN
open Bool renaming true->yH,false->yI
open Decidable renaming decide->yJ
open Go.Proofs.Tryz renaming prog->yK
open Go.RowKit renaming Hid->yL,Below->yM
open List renaming replicate->yP
open Go.World renaming cell?->yQ
open Go.RowKit.Below renaming refl->yR
open And renaming intro->yS
namespace Go.Proofs.YtppnakkaljbmbaaGreatDoor
namespace Ch
open Front Bt Zr Ix Hf
theorem qA (x n B:Nat) (c:x<n) (w:yC) (h:w.cell? ⟨B,0,yB⟩=yA (qX qm (n:Int))):
  yG yK 154 #[ival x,qc (yA ⟨B,0,yB⟩)] w fun e w'=>e=qx (qh ((fun _=>yI) x))/\w'=w:=by
 have a:decide ((x:Int)<0)=yI:=qP1 za;have b:decide (n<=x)=yI:=qP1 za;go_enter func154,ntmps154;go_wp2;go_ret;exact⟨rfl,rfl⟩
theorem zTr (l:List Nat) (a:Option yF) (k c n:Nat) (w:yC) (j:kN l=k) (p:k<=1000000000) (m:yt w a (l.map ival)) (i:∀x∈l,x<n):
  yG yK 83 #[qZ a k c,n] w fun e w'=>e=qx (qh yI)/\yM w w w':=by
 have r:∀(fn:Fn) (first f:Array yD) (w:yC),(Instr.makeFunc fn first f).run yK w= .ok (.func fn first f) w:=fun _ _ _ _=>rfl;obtain⟨W,h⟩:=zB (w.alloc (qp #[n] 3));have b:yM w w W:=by rw[<-h];exact(yR _ _).alloc (qPq _) _
 have d:W.cell? ⟨w,0,yB⟩=yA (qX qm (n:Int)):=by rw[<-h];simp
 obtain⟨B,o⟩:=zB w.heap.size;rw[o]at d;have g:=zH (zO3 (fun _=>yI) l 154 (qc (yA ⟨B,0,yB⟩)) a k c W j p (m.below b) (zHw func154 rfl rfl) (fun x q=>qA x n B (i x q) W d));rw[any_false]at g;have HB:=zH b;clear j m i d b;go_enter func83,ntmps83;go_wp2_with fail;(with_reducible refine g.out.mono ?_);rintro e w2 ⟨rfl,rfl⟩;go_wp2;go_ret;exact⟨rfl,HB.out⟩
theorem zYb (t g:List Nat) (s:Nat):cost t (g++[s])=cost t g+t.getD s 0:=by unfold cost;rw[qQb,List.sum_append];simp
theorem zT6 (t:List Nat) (a:∀x∈t,x<=20):∀g:List Nat,cost t g<=20*kN g
 |[]=>qPq _
 |s::g=>by
  have b:=zT6 t a g;have h:t.getD s 0<=20:=by
   rw[qPz];cases h:t[s]? with
   |none=>simp
   |some x=>exact a x (qSs h)
  show t.getD s 0+cost t g<=_;rw[qP4];omega
theorem zRy (t g:List Nat) (a:Option yF) (n c:Nat) (I:Option yF) (k c2:Nat) (w:yC) (M:kN t=n) (O:yt w a (t.map ival)) (N:Right t) (L:kN g=k) (a1:k<=10000) (y:yt w I (g.map ival)) (K:∀x∈g,x<n):
  yG yK 84 #[qZ a n c,qZ I k c2] w fun e w'=>e=qx (qg #[qX qm (cost t g:Int),qX qm 0])/\yM w w w':=by
 obtain⟨R,V,HS,G,HN,S,Z,HR⟩:=yh (zCk t a n c w M O N) (fun W (hb:yM w w W)=>zTr g I k c2 n W L za (y.below hb) K) O y M L K N;clear O y M L K N;go_enter func84,ntmps84;go_wp2_with fail;(with_reducible refine R.out.mono ?_);rintro e w2 ⟨rfl,h⟩;obtain⟨p,P⟩:=yU (V.out w2 h) h;clear h V R;go_wp2_with fail;(with_reducible refine p.out.mono ?_);rintro e w3 ⟨rfl,r⟩;have z:=zH (P.out.trans (r.mono P.out.size));clear r p;go_wp2;go_loopw [4,20] (fun nv iv wr=>∃j:Nat,j<=k/\iv=qX qm j/\nv=qX qm (cost t (g.take j):Int)/\wr=w3) (fun _ iv _=>k-(intOf iv).toNat)
 case atStart=>exact⟨0,za,rfl,rfl,rfl⟩
 case round=>
  obtain⟨j,hj,rfl,rfl,rfl⟩:=hrel;by_cases B:j<k
  .have i:j<kN g:=by rw[S.out];exact B
   obtain⟨s,f⟩:=zB (g[j]);have F:s<n:=by rw[<-f];exact Z.out _ (qP9 i)
   have o:s<kN t:=by rw[HN.out];exact F
   obtain⟨b2,o2,rfl,e0⟩:=(G.out.below z.out) j (ival s) (by rw[qP3,qPu i,f];rfl);obtain⟨b1,o1,rfl,e1⟩:=(HS.out.below z.out) s (ival t[s]) (by rw[qP3,qPu o];rfl);have m:g.take (j+1)=g.take j++[s]:=by rw[qQp i,f]
   have b:=zYb t (g.take j) s;rw[<-m,qPz,qPu o]at b;have l:=zT6 t HR.out.top (g.take (j+1));rw[qQh]at l;obtain⟨u,Y⟩:=zB (t[s]);rw[Y]at e1 b;obtain⟨q,X⟩:=zB (cost t (g.take j));rw[X]at b⊢;have d:cost t (g.take (j+1))=q+u:=b;have H:=zH d;rw[d]at l;have a0:q+u<=200000:=za
   clear m b d Y X f l;go_wp2;go_roundw
   case rel=>exact⟨j+1,za,by go_num,by rw[H.out];go_num,trivial⟩
   case measure=>exact z8
  .obtain rfl:k=j:=za
   have HT:=yT (g.take k=g) (qQc (by rw[S.out];omega));go_wp2;go_ret2;exact⟨by rw[HT.out];rfl,z.out⟩
end Ch
namespace Ch
open Front Bt Zr Wg
variable {ρ:Operand->yD} {o:Oper} {x y n z B p G D k c:Nat} {w w' w0:yC} {m:List Nat} {vs:List yD} {ts:List (List Nat)}
abbrev TA:yE:=162
abbrev zi (n:Nat):Obj:=qp (cellsOf n (fun _=>qX qm 0)) 3
abbrev z2:Obj:=qp #[qZ yB 0 0,qZ yB 0 0] TA
def zDc (k a b:Nat):Nat:=if k=0 then a else b
structure We (B:Nat) (w0:yC) (m:List Nat) (n p x y z:Nat) (w:yC):Prop where
 ax:zAm w x 3 n (wt m p 0)
 ay:zAm w y 3 n (wt m p 1)
 az:w.heap[z]? =yA (qp #[qZ (yA ⟨x,0,yB⟩) n n,qZ (yA ⟨y,0,yB⟩) n n] TA)
 nxy:x≠y
 nxz:x≠z
 nyz:y≠z
 bx:B<=x
 by_:B<=y
 bz:B<=z
 below:yM B w0 w
theorem run_mk {P:Program} {t:yE} {x y:Operand} {a b u:yD} (d:o.op= .makeSlice t x y) (f:ρ x=a) (g:ρ y=b) (e:(Instr.makeSlice t a b).run P w= .ok u w'):(execOp ρ o).run P w= .ok (.value u) w':=by
 unfold execOp;simp[d,f,g,e]
theorem zEr {x y:Operand} {N:Nat} (b:n<=1000000) (d:o.op= .makeSlice 23 x y) (f:ρ x=qX qm (n:Int)) (g:ρ y=qX qm (n:Int)) (a:w.heap.size=N) (e:w.alloc (zi n)=w'):
  (execOp ρ o).run yK w= .ok (.value (qZ (yA ⟨N,0,yB⟩) n n)) w':=by
 subst a e;exact run_mk d f g (zF2 w n b)
theorem zAh (w:yC) (o:Obj):(w.alloc o).heap[w.heap.size]? =yA o:=by show(w.heap.push o)[w.heap.size]? =_;simp
theorem zG8 (d:w.heap[z]? =yA z2):
  (storeVar TA ⟨z,0,yB⟩ (.agg #[qZ (yA ⟨x,0,yB⟩) n n,qZ (yA ⟨y,0,yB⟩) n n])).run yK w= .ok () (w.setCells z 0 [qZ (yA ⟨x,0,yB⟩) n n,qZ (yA ⟨y,0,yB⟩) n n]):=by
 have a:(prog.info? TA).map (·.size)=yA 2:=zf
 refine qSl (P:=yK) w z 0 TA #[qZ (yA ⟨x,0,yB⟩) n n,qZ (yA ⟨y,0,yB⟩) n n] (fun j b=> ?_) a (by simp[Value.oneCell']);have e:j<2:=b;refine⟨?_,?_⟩
 all_goals
  obtain rfl|rfl:j=0\/j=1:=za
  all_goals simp[yQ,World.frozen?,d]
theorem We.start (m:List Nat) (q:yM B w0 w) (g:w.heap[x]? =yA (zi n)) (h:w.heap[y]? =yA (zi n)) (d:w.heap[z]? =yA z2) (j:x≠y) (l:B<=x) (i:B<=y) (f:B<=z):
  We B w0 m n 0 x y z (w.setCells z 0 [qZ (yA ⟨x,0,yB⟩) n n,qZ (yA ⟨y,0,yB⟩) n n]):=by
 have b:x≠z:=fun e=>by subst e;rw[g]at d;injection d with d;injection d with _ d _;exact absurd d qW
 have a:y≠z:=fun e=>by subst e;rw[h]at d;injection d with d;injection d with _ d _;exact absurd d qW
 refine⟨(Kit.zAo _ w z 0 x b).trans g,(Kit.zAo _ w z 0 y a).trans h,?_,j,b,a,l,i,f,Kit.below_setCells _ z 0 q f⟩;exact Kit.zDl _ w z 0 _ TA (0,0) d
theorem We.get (h:We B w0 m n p x y z w) (k:Nat) (a:k<2):
  w.cell? ⟨z,k,yB⟩=yA (qZ (yA ⟨zDc k x y,0,yB⟩) n n)/\zAm w (zDc k x y) 3 n (wt m p k)/\B<=zDc k x y/\zDc k x y<w.heap.size:=by
 obtain rfl|rfl:k=0\/k=1:=za
 .exact⟨by simp[yQ,h.az,zDc],h.ax,h.bx,h.ax.lt⟩
 .exact⟨by simp[yQ,h.az,zDc],h.ay,h.by_,h.ay.lt⟩
theorem We.step (h:We B w0 m n p x y z w) (k s:Nat) (f:p/10%2=k) (a:m.getD p 0=s) {V:Int} (d:V=(wt m p k s+1:Nat)):
  We B w0 m n (p+1) x y z (w.setCell ⟨zDc k x y,s,yB⟩ (qX qm V)):=by
 have g:k<2:=za
 obtain rfl|rfl:k=0\/k=1:=za
 .refine⟨(h.ax.set s _ d).congr fun j b=> ?_,(h.ay.keep (zAa h.nxy.symm)).congr fun j b=> ?_,(zAa h.nxz.symm).trans h.az,h.nxy,h.nxz,h.nyz,h.bx,h.by_,h.bz,h.below.setCell (p:=⟨x,s,yB⟩) h.bx _⟩
  .rw[zG4];by_cases e:j=s
   .subst e;rw[zCj,qPr ⟨f,a⟩]
   .rw[zBb _ _ _ _ e,qPt (fun h=>e (h.2.symm.trans a)),qRi]
  .rw[zG4,qPt (fun h=>za),qRi]
 .refine⟨(h.ax.keep (zAa h.nxy)).congr fun j b=> ?_,(h.ay.set s _ d).congr fun j b=> ?_,(zAa h.nyz.symm).trans h.az,h.nxy,h.nxz,h.nyz,h.bx,h.by_,h.bz,h.below.setCell (p:=⟨y,s,yB⟩) h.by_ _⟩
  .rw[zG4,qPt (fun h=>za),qRi]
  .rw[zG4];by_cases e:j=s
   .subst e;rw[zCj,qPr ⟨f,a⟩]
   .rw[zBb _ _ _ _ e,qPt (fun h=>e (h.2.symm.trans a)),qRi]
theorem We.grow (h:We B w0 m n p x y z w) (a:yM w w w'):We B w0 m n p x y z w':=by
 have b:z<w.heap.size:=(qQ7.1 h.az).1;have d:B<=w.heap.size:=qP2 h.bz (qP7 b);exact⟨h.ax.keep (a.block x h.ax.lt),h.ay.keep (a.block y h.ay.lt),(a.block z b).trans h.az,h.nxy,h.nxz,h.nyz,h.bx,h.by_,h.bz,h.below.trans (a.mono d)⟩
structure Tb (w:yC) (D:Nat) (n:Nat) (p:Option yF) (k c:Nat) (vs:List yD) (ts:List (List Nat)):Prop where
 own:yu w D TL_ p k c vs
 len:kN ts=k
 each:∀(i:Nat) (t:List Nat),ts[i]? =yA t->∃G,vs[i]? =yA (Value.slice (yA ⟨G,0,yB⟩) n n)/\yt w (yA ⟨G,0,yB⟩) (t.map ival)/\zDj w G/\D<=G
theorem Tb.start (w:yC) (D n:Nat):Tb w D n yB 0 0 [] []:=⟨Kit.Own.start _ _ _,rfl,fun i g h=>by simp at h⟩
theorem zOv (h:zDj w G):G<w.heap.size:=by obtain⟨a,f,h⟩:=h;exact(qQ7.1 h).1
theorem Tb.grow {p:Option yF} (h:Tb w D n p k c vs ts) (a:yM w w w'):Tb w' D n p k c vs ts:=
 ⟨h.own.below a (qPq _),h.len,fun i t hi=>by obtain⟨G,d,e,b,f⟩:=h.each i t hi;exact⟨G,d,e.below a,b.below a (zOv b),f⟩⟩
theorem zP5 {l:List yD} (h:yt w (yA ⟨G,0,yB⟩) l) (e:w'.heap[G]? =w.heap[G]?):yt w' (yA ⟨G,0,yB⟩) l:=by
 intro j u f;obtain⟨b,off,a,d⟩:=h j u f;injection a with a
 injection a with h1 h2 _
 subst h1 h2;refine⟨_,_,rfl,?_⟩;rw[<-d];simp[yQ,e]
theorem Tb.app {p:Option yF} {t:List Nat} (h:Tb w D n p k c vs ts) (hs:yt w (yA ⟨G,0,yB⟩) (t.map ival)) (hi:zDj w G) (hG:D<=G) (hk:k<=100000) (hD:D<=w.heap.size):
  ∃I c2 w',(Builtin.append_ #[60,60] 60 #[qZ p k c,qZ (yA ⟨w,0,yB⟩) 1 1]).run yK (w.alloc (qp #[qZ (yA ⟨G,0,yB⟩) n n] TL_))= .ok (qZ I (k+1) c2) w'/\
   Tb w' D n I (k+1) c2 (vs++[qZ (yA ⟨G,0,yB⟩) n n]) (ts++[t])/\yM D w w':=by
 have O:=h.own.alloc (qp #[qZ (yA ⟨G,0,yB⟩) n n] TL_);obtain⟨I,c2,w',Y,Z,M⟩:=O.app (ty:=60) qFj (yA ⟨w,0,yB⟩) 1 1 [qZ (yA ⟨G,0,yB⟩) n n] (Kit.zAs w _ TL_) rfl (fun h=>by cases h) (by intro u P;simp at P;subst P;rfl) (by unfold maxLen;omega) za (by rw[zA];omega);have N:yM w w (w.alloc (qp #[qZ (yA ⟨G,0,yB⟩) n n] TL_)):=(yR _ _).alloc (qPq _) _;have j:=h.own.len;have bl:∀{s:Nat},zDj w s->w'.heap[s]? =w.heap[s]? :=fun{s} R=>by
  have g:=zOv R;refine(M.block s (by rw[zA];omega) (fun e=> ?_)).trans (N.block s g);obtain⟨F,f,m⟩:=R;obtain⟨_,H⟩:=h.own;rcases H with⟨H,_⟩|⟨g',a0,a1,hv,_,a,_⟩
  .injection H with H _ _
   subst H;simp[Value.ownBlock]at e
  .injection hv with ha _ _
   subst ha;simp[Value.ownBlock]at e;subst e;rw[m]at a;injection a with a
   injection a with _ a _
   exact absurd a qW
 refine⟨I,c2,w',Y,⟨Z,by rw[qP0,h.len];rfl,fun i x q=> ?_⟩,?_⟩
 .rcases qP8 i (kN ts) with g|l
  .rw[qR7 g]at q;obtain⟨s,V,W,K,X⟩:=h.each i x q;refine⟨s,by rw[qR7 (by rw[j,<-h.len];exact g)];exact V,zP5 W (bl K),?_,X⟩;obtain⟨F,f,d⟩:=K;exact⟨F,f,(bl ⟨F,f,d⟩).trans d⟩
  .rw[qS3 l]at q;have o:i-kN ts=0:=by
    rcases qQz (i-kN ts)with L|L
    .exact L
    .rw[qQq zq]at q;cases q
   rw[o]at q;simp at q;subst q;have r:i=kN ts:=za
   subst r;refine⟨G,by rw[qS3 (by rw[j,h.len];exact qPq _),j,h.len,Nat.sub_self];rfl,zP5 hs (bl hi),?_,hG⟩;obtain⟨F,f,d⟩:=hi;exact⟨F,f,(bl ⟨F,f,d⟩).trans d⟩
 .exact(N.mono hD).trans (Kit.zAq M (by rw[zA];omega) (fun b S=>O.block b S))
end Ch
namespace Sq
open Front Us Tn St Zr Bt Ch Hf
variable {w:yC} {B i:Nat} {v:yD} {t:yE}
abbrev TQ:yE:=133
def qv (a:ByteArray) (o:Nat) (p:Option yF) (n c:Nat):yD:= .agg #[qY a,o,qZ p n c]
theorem zFr (a:ByteArray) (o:Nat) (p:Option yF) (n c:Nat) (b:a.size<=1000000) (w:yC):
  yG yK 148 #[qv a o p n c] w fun e w'=>e=qx (qX qm ((a.size:Int)+1))/\yM w w w':=by
 unfold qv;go_enter func148,ntmps148;go_wp2;go_ret;exact⟨rfl,(yR _ _).alloc (qPq _) _⟩
theorem zO4 (a:ByteArray) (o:Nat) (p:Option yF) (n c:Nat) (f:a.size<=1000000) (w:yC):
  yG yK 70 #[qv a o p n c] w fun e w'=>e=qx (qX qm ((a.size:Int)+2))/\yM w w w':=by
 have b:=zH (fun W=>zFr a o p n c f W);unfold qv at*;go_enter func70,ntmps70;go_wp2_with fail;(with_reducible refine(b.out _).mono ?_);rintro e w2 ⟨rfl,d⟩;have HB:=zH (((yR w.heap.size w).alloc (qPq _) (qp #[qY a,o,qZ p n c] TQ)).trans (d.mono zm));clear d b;go_wp2;go_ret;exact⟨Bt.zBw za,HB.out⟩
theorem zBi {u x:yD} (h:w.heap[B]? =yA (qp #[u,v,x] t)):w.cell? ⟨B,0,yB⟩=yA u/\w.cell? ⟨B,1,yB⟩=yA v/\w.cell? ⟨B,2,yB⟩=yA x/\w.frozen? ⟨B,0,yB⟩=yI/\w.frozen? ⟨B,1,yB⟩=yI/\w.frozen? ⟨B,2,yB⟩=yI:=by
 refine⟨by simp[yQ,h],by simp[yQ,h],by simp[yQ,h],by simp[World.frozen?,h],by simp[World.frozen?,h],by simp[World.frozen?,h]⟩
theorem qF8 {Q:Nat} {o:Obj} (hne:Q≠B) (h:w.heap[B]? =yA o):(w.setCell ⟨Q,i,yB⟩ v).heap[B]? =yA o:=(zAa (fun e=>hne e.symm)).trans h
theorem zA3 {a:Array yD} {f:Nat×Nat} (i:Nat) (v:yD) (h:w.heap[B]? =yA (qp a t f)):(w.setCell ⟨B,i,yB⟩ v).heap[B]? =yA (qp (a.setIfInBounds i v) t f):=by
 simp[World.setCell,qQt,h]
theorem zCz {r:Nat} {e:yE} {a:Option yF} {n c:Nat} {l:List yD} (h:yu w B e a n c l) (b:r<B) (u:yD):yu (w.setCell ⟨r,i,yB⟩ u) B e a n c l:=zD4 h b u
theorem zZp {f:Func} {p u:Tmp} (h:f.results= #[.cell p TQ,.tmp u]) (tmps:Array yD) (w:yC) (r:Nat) (e x y z:yD) (j:tmps.getD p yN=qc (yA ⟨r,0,yB⟩)) (d:tmps.getD u yN=e)
  (a:w.cell? ⟨r,0,yB⟩=yA x) (b:w.cell? ⟨r,1,yB⟩=yA y) (c:w.cell? ⟨r,2,yB⟩=yA z):(results f tmps).run yK w= .ok (qg #[.agg #[x,y,z],e]) w:=by
 have g:(loadVar TQ ⟨r,0,yB⟩).run yK w= .ok (.agg #[x,y,z]) w:=by simp[loadVar,go_sem,a,b,c]
 rw[results_cell_tmp h,j,d];simp[asAddr,g,Result.andThen]
theorem zSh (p:ByteArray) (h0:0<p.size) (h1:p.size<=1000) (w:yC):
  yG yK 69 #[qY p] w fun e w'=>∃a c,e=qx (qg #[qv (zAj p) (zA8 p) a (kN (sym p)) c,qX qm 0])/\yu w' w.heap.size 3 a (kN (sym p)) c ((sym p).map ival)/\yM w w w':=by
 have hl:=zDq p h0;have ad:=zFk p;have N:=zTm p h0;obtain⟨B,hB⟩:=zB w.heap.size;obtain⟨n,hn⟩:=zB p.size;have j1:p.toList.isEmpty=yI:=by rw[qTa,List.isEmpty_eq_false_iff];intro e;have:kN p.data.toList=0:=(by rw[e];rfl);rw[Array.length_toList]at this;have:p.size=0:=this;omega
 have j2:decide ((65536:Int)<(n:Int))=yI:=qP1 za;obtain⟨A,q⟩:=zB (zAj p);obtain⟨O,hO⟩:=zB (zA8 p);obtain⟨L,hL⟩:=zB (lastT p);have ag:L.size=n:=by rw[<-hL,zCp,hn]
 have j:=fun k hk=>zQr p h0 k hk;have b:=zDb p;rw[q]at ad;have o:=fun W=>zMo A L za za W;rw[show A.data.toList=al p from by rw[<-q];rfl,show L.data.toList=la p from by rw[<-hL];rfl,N.1,N.2]at o;have a0:kN (sym p)=kN (enc 0 (plc p))+1:=zCv p;have Y:sym p=enc 0 (plc p)++[A.size+1]:=by rw[<-q];rfl
 have I:=zL1 p;rw[show sy p=enc 0 (plc p)from rfl]at I;rw[hn]at I b;rw[q]at j;rw[hB,q,hO,a0,Y];rw[b]at o;obtain⟨l,a9⟩:=zB (plc p);rw[a9]at o j b I⊢;obtain⟨m,hm⟩:=zB (enc 0 l);rw[hm]at I;obtain⟨HF,a1,a4,a8⟩:=yX (fun W=>by have h:=zKn p n hn za za W;rw[hL,hO]at h;exact h) (fun W=>by have h:=zEc p za W;rw[q]at h;exact h) o (fun(a:Option yF) (c:Nat) (W:yC) (hs:yt W a (l.map ival)) (had:Ad a n c)=>by
  have h:=zD8 l a n c W b za hs had (fun x hx=>by have:=j x hx;omega);rw[hm]at h;exact h)
 obtain⟨HN,HM⟩:=yU hn hm;clear N q hO hL o a0 Y a9 hm j b;unfold qv;go_enter func69,ntmps69;go_wp2_with fail;(with_reducible refine(HF.out _).mono ?_);rintro e w2 ⟨rfl,u⟩;go_wp2_with fail;(with_reducible refine(a1.out _).mono ?_);rintro e y ⟨rfl,K⟩;have r0:(w.alloc (qp #[qY ⟨#[]⟩,qX qm 0,qZ yB 0 0] TQ)).heap[B]? =yA (qp #[qY ⟨#[]⟩,qX qm 0,qZ yB 0 0] TQ):=by rw[<-hB];exact zAh w _
 have b1:yM B w (w.alloc (qp #[qY ⟨#[]⟩,qX qm 0,qZ yB 0 0] TQ)):=by rw[<-hB];exact(yR _ _).alloc (qPq _) _
 obtain⟨w1,H⟩:=zB (w.alloc (qp #[qY ⟨#[]⟩,qX qm 0,qZ yB 0 0] TQ));have z1:w1.heap.size=B+1:=by rw[<-H,zA,hB]
 rw[H]at r0 b1;rw[show w.alloc (qp #[qY ⟨#[]⟩,qX qm 0,qZ yB 0 0] 133)=w1 from H,z1]at u;have ab:=u.size;have ac:=K.size;have b3:yM B w y:=b1.trans ((u.mono za).trans (K.mono za));have r3:y.heap[B]? =yA (qp #[qY ⟨#[]⟩,qX qm 0,qZ yB 0 0] TQ):=by rw[K.block B za,u.block B za];exact r0
 obtain⟨Q,hQ⟩:=zB y.heap.size;have af:B+1<=Q:=za
 obtain⟨z,d⟩:=zB (y.alloc (qp #[qY A,O,qZ yB 0 0] TQ));have z4:z.heap.size=Q+1:=by rw[<-d,zA,hQ]
 have q4:z.heap[Q]? =yA (qp #[qY A,O,qZ yB 0 0] TQ):=by rw[<-d,<-hQ];exact zAh y _
 have r4:z.heap[B]? =yA (qp #[qY ⟨#[]⟩,qX qm 0,qZ yB 0 0] TQ):=by rw[<-d,Lib.alloc_old y _ B za];exact r3
 have b4:yM B w z:=by rw[<-d];exact b3.alloc za _
 obtain⟨Z,Q4,R4,B4⟩:=yX d q4 r4 b4;obtain⟨x0,_⟩:=cells3 q4;clear u K r0 b1 H z1 ab ac b3 r3 d q4 r4 b4 HF a1;go_wp2_with fail;rw[show y.alloc (qp #[qY A,O,qZ yB 0 0] TQ)=z from Z.out];(with_reducible refine(a4.out _).mono ?_);rintro e w5 ⟨a5,c5,rfl,a3,f,_,P⟩;have V:=zH (a8.out a5 c5 w5 a3 P);rw[z4]at f;have ah:=f.size;obtain⟨Q5,R5,B5⟩:=yV ((f.block Q za).trans Q4.out) ((f.block B za).trans R4.out) (B4.out.trans (f.mono za));clear a4 a8 f a3 P Q4 R4 B4 Z x0;go_wp2_with fail;(with_reducible refine V.out.mono ?_);rintro e w6 ⟨a6,c6,rfl,R,s⟩;have ai:=s.size;have M:=(s.block Q za).trans Q5.out;obtain⟨R6,B6,O6⟩:=yV ((s.block B za).trans R5.out) (B5.out.trans (s.mono za)) R;obtain⟨y0,y1,y2,y3⟩:=cells3 M;obtain⟨Q6,G⟩:=yU M (fun W=>zFr A O yB 0 0 za W);unfold qv at G;clear V s R M Q5 R5 B5;go_wp2_with fail;(with_reducible refine(G.out _).mono ?_);rintro e w7 ⟨rfl,g⟩;have aj:=g.size;have a2:=(g.block Q za).trans Q6.out;obtain⟨R7,B7,O7⟩:=yV ((g.block B za).trans R6.out) (B6.out.trans (g.mono za)) (O6.out.below g (qPq _));obtain⟨p8,c8,w8,a7,S,t⟩:=zMb O7.out (A.size+1) za za;rw[show((A.size+1:Nat):Int)=(A.size:Int)+1 from za]at a7;have ak:=t.size;have X:=(t.block Q za).trans a2;have F:=(t.block B za).trans R7.out;obtain⟨y0,y1,y2,y3⟩:=cells3 X;obtain⟨g0,g1,g2,f0,f1,f2⟩:=zBi F;obtain⟨ae,B8,O8⟩:=yV (qF8 (i:=2) (Q:=Q) (B:=B) za F (v:=qZ p8 (kN m+1) c8)) (B7.out.trans (t.mono za)) S;clear g t S a2 X F Q6 R6 R7 B6 B7 O6 O7 G;go_wp2_with (at_builtin;refine xG rfl (.tmp 40) (.tmp 43) 23 rfl rfl rfl a7 ?_);have aa:=zA3 2 (qZ p8 (kN m+1) c8) (zA3 1 (qX qm (O:Int)) (zA3 0 (qY A) ae.out));obtain⟨k0,k1,k2,_⟩:=cells3 aa;refine qP5 (zZp rfl _ _ B _ _ _ _ rfl rfl k0 k1 k2) rfl ⟨p8,c8,by rw[HM.out];rfl,?_,?_⟩
 .rw[HM.out];exact((zCz (zCz (zCz (zCz O8.out (r:=Q) (i:=2) za _) (r:=B) (i:=0) za _) (r:=B) (i:=1) za _) (r:=B) (i:=2) za _).base za)
 .exact(((B8.out.setCell (p:=⟨Q,2,yB⟩) (by show B<=Q;omega) _).setCell (p:=⟨B,0,yB⟩) (qPq _) _).setCell (p:=⟨B,1,yB⟩) (qPq _) _).setCell (p:=⟨B,2,yB⟩) (qPq _) _
end Sq
namespace Sq
open Front Us Tn St Zr Bt
variable {w w':yC} {K:Nat} {a b:ByteArray} {P:Program} {ρ:Operand->yD} {o:Oper} {t u:yE} {x y:Operand} {r:Bool}
abbrev TK:yE:=460
structure Wk where
 A:ByteArray
 O:Nat
 p:Option yF
 n:Nat
 c:Nat
 most:Nat
 q:Option yF
 m:Nat
 d:Nat
 by_:ByteArray
def WK (w:yC) (K:Nat) (x:Wk):Prop:=w.heap[K]? =yA (qp #[qY x.A,qX qm (x.O:Int),qZ x.p x.n x.c,qX qm (x.most:Int),qZ x.q x.m x.d,qY x.by_] TK)
theorem WK.lt {x:Wk} (h:WK w K x):K<w.heap.size:=zAd h
theorem WK.keep {x:Wk} (h:WK w K x) (e:w'.heap[K]? =w.heap[K]?):WK w' K x:=e.trans h
theorem WK.below {x:Wk} (h:WK w K x) (c:yM w w w'):WK w' K x:=h.keep (c.block K h.lt)
theorem WK.c0 {x:Wk} (h:WK w K x):w.cell? ⟨K,0,yB⟩=yA (qY x.A):=by unfold WK at h;simp[yQ,h]
theorem WK.c1 {x:Wk} (h:WK w K x):w.cell? ⟨K,1,yB⟩=yA (qX qm (x.O:Int)):=by unfold WK at h;simp[yQ,h]
theorem WK.c2 {x:Wk} (h:WK w K x):w.cell? ⟨K,2,yB⟩=yA (qZ x.p x.n x.c):=by unfold WK at h;simp[yQ,h]
theorem WK.c3 {x:Wk} (h:WK w K x):w.cell? ⟨K,3,yB⟩=yA (qX qm (x.most:Int)):=by unfold WK at h;simp[yQ,h]
theorem WK.c4 {x:Wk} (h:WK w K x):w.cell? ⟨K,4,yB⟩=yA (qZ x.q x.m x.d):=by unfold WK at h;simp[yQ,h]
theorem WK.c5 {x:Wk} (h:WK w K x):w.cell? ⟨K,5,yB⟩=yA (qY x.by_):=by unfold WK at h;simp[yQ,h]
theorem WK.fr {x:Wk} (h:WK w K x) (i:Nat):w.frozen? ⟨K,i,yB⟩=yI:=by unfold WK at h;simp[World.frozen?,h]
theorem WK.l0 {x:Wk} (h:WK w K x):(loadVar 9 ⟨K,0,yB⟩).run yK w= .ok (qY x.A) w:=yw h.c0 zf zf
theorem WK.l1 {x:Wk} (h:WK w K x):(loadVar 3 ⟨K,1,yB⟩).run yK w= .ok (qX qm (x.O:Int)) w:=yw h.c1 zf zf
theorem WK.l2 {x:Wk} (h:WK w K x):(loadVar 23 ⟨K,2,yB⟩).run yK w= .ok (qZ x.p x.n x.c) w:=yw h.c2 zf zf
theorem WK.l3 {x:Wk} (h:WK w K x):(loadVar 3 ⟨K,3,yB⟩).run yK w= .ok (qX qm (x.most:Int)) w:=yw h.c3 zf zf
theorem WK.l4 {x:Wk} (h:WK w K x):(loadVar 23 ⟨K,4,yB⟩).run yK w= .ok (qZ x.q x.m x.d) w:=yw h.c4 zf zf
theorem WK.l5 {x:Wk} (h:WK w K x):(loadVar 9 ⟨K,5,yB⟩).run yK w= .ok (qY x.by_) w:=yw h.c5 zf zf
theorem WK.lq {x:Wk} (h:WK w K x):(loadVar TQ ⟨K,0,yB⟩).run yK w= .ok (qv x.A x.O x.p x.n x.c) w:=by
 have c:=h.c0;have d:=h.c1;have e:=h.c2;unfold qv;simp[loadVar,go_sem,c,d,e]
theorem WK.qE7 {x:Wk} (h:WK w K x) (q:Option yF) (m d:Nat):(storeVar 23 ⟨K,4,yB⟩ (qZ q m d)).run yK w= .ok () (w.setCell ⟨K,4,yB⟩ (qZ q m d))/\WK (w.setCell ⟨K,4,yB⟩ (qZ q m d)) K {x with q:=q,m:=m,d:=d}:=by
 refine⟨Kit.zDs h.c4 (h.fr 4) zf rfl rfl,?_⟩;unfold WK at*;simp[World.setCell,qQt,h]
theorem WK.qE6 {x:Wk} (h:WK w K x) (b:ByteArray):(storeVar 9 ⟨K,5,yB⟩ (qY b)).run yK w= .ok () (w.setCell ⟨K,5,yB⟩ (qY b))/\WK (w.setCell ⟨K,5,yB⟩ (qY b)) K {x with by_:=b}:=by
 refine⟨Kit.zDs h.c5 (h.fr 5) zf rfl rfl,?_⟩;unfold WK at*;simp[World.setCell,qQt,h]
structure Upd (w w':yC) (K:Nat):Prop where
 old:∀k,k<w.heap.size->k≠K->w'.heap[k]? =w.heap[k]?
 below:yM K w w'
theorem Upd.refl (w:yC) (K:Nat):Upd w w K:=⟨fun _ _ _=>rfl,yR _ _⟩
theorem Upd.trans {c:yC} (h:Upd w w' K) (g:Upd w' c K):Upd w c K:=⟨fun k d e=>(g.old k (qQx d h.below.size) e).trans (h.old k d e),h.below.trans g.below⟩
theorem Upd.of_below (c:yM w w w') (e:K<=w.heap.size):Upd w w' K:=⟨fun k d _=>c.block k d,c.mono e⟩
theorem Upd.set {i:Nat} {v:yD}:Upd w (w.setCell ⟨K,i,yB⟩ v) K:=⟨fun k _ c=>zAa c,(yR _ _).setCell (p:=⟨K,i,yB⟩) (qPq _) v⟩
theorem Upd.size (h:Upd w w' K):w.heap.size<=w'.heap.size:=h.below.size
theorem Upd.src {a:Option yF} {xs:List yD} (h:Upd w w' K) (g:yt w a xs) (f:∀p,a=yA p->p.block≠K):yt w' a xs:=by
 intro j u i;obtain⟨b,c,d,e⟩:=g j u i;refine⟨b,c,d,?_⟩;rw[<-e];simp only[yQ,h.old b (qQk e) (f _ d)]
theorem zZi (c:o.op= .binOp .eql t x y u) (d:ρ x=qY a) (e:ρ y=qY b) (h:(a.toList==b.toList)=r) (w:yC):(execOp ρ o).run P w= .ok (.value (qh r)) w:=by
 subst h;unfold execOp;simp[c,d,e,go_sem]
theorem zZf (c:o.op= .binOp .neq t x y u) (d:ρ x=qY a) (e:ρ y=qY b) (h:(!(a.toList==b.toList))=r) (w:yC):(execOp ρ o).run P w= .ok (.value (qh r)) w:=by
 subst h;unfold execOp;simp[c,d,e,go_sem]
theorem zSp (K:Nat) (x:Wk) (w:yC) (h:WK w K x) (n:0<x.A.size) (p:x.A.size<=1000) (k:zAj x.A=x.A):
  yG yK 338 #[qc (yA ⟨K,0,yB⟩)] w fun e w'=>e=qx (qX qm 0)/\yM w w w':=by
 have a:=zH (fun W=>by have h:=zEc x.A za W;rw[k]at h;exact h);have g:=yT ((x.A.toList==(⟨#[]⟩:ByteArray).toList)=yI) (by
  rw[qSd,qTa,qTa];intro e;have j:kN x.A.data.toList=0:=by rw[e];rfl
  rw[Array.length_toList]at j;have s:x.A.size=0:=j;omega)
 have i:=yT ((!(x.A.toList==x.A.toList))=yI) (by simp);have H:=zH h;obtain⟨A,f⟩:=zB x.A;have d:=zH (fun(W:yC) (q:WK W K x)=>by have h:=q.l0;rw[f]at h;exact h);rw[f]at a g i;clear h n p k f;go_enter func338,ntmps338;go_wp2;refine zS [] (fun m=>WK m K x) [0,1,2,4,8,16,32,64,192,320,576,1088,2112,64,8256,16448,32832,65600,135232,262208] 20<|zp [0,1,2,3,4,5,6]<|zk 3 (zP K 0)<|zk 4 (zP K 0)<|zk 5 (zP K 0)<|zk 6 (zP K 0)<|zt 7 (qY A) ((fun w c=>zl 9 6 (d.out _ c)) _ (show WK w.drew K x from H.out))<|zt 8 (qh yI) (zZi (x:= .tmp 7) (y:= .const (qY ⟨#[]⟩)) rfl zf zf g.out _)<|zk 9 (qh yI)<|zn<|zu 13 16 (zP K 0)<|zu 14 17 (zP K 0)<|zu 15 18 (zP K 0)<|zu 16 19 (zP K 0)<|zy 17 20 (qY A) (fun w c=>zl 9 19 (d.out _ c)) (show WK w.drew K x from H.out)<|zp [7,8,9,10,11]<|zk 10 (zP K 0)<|zk 11 (zP K 0)<|zk 12 (zP K 0)<|zk 13 (zP K 0)<|zt 14 (qY A) ((fun w c=>zl 9 13 (d.out _ c)) _ (show WK w.drew K x from H.out))<|zn<|zc 12 15 20 #[qY A] (qY A) (a.out _)<| ?_
 refine fun z l=>⟨qy (qy ((show WK w.drew K x from H.out).below l)),?_⟩;refine zp [18,19]<|zt 21 (qh yI) (zZf (x:= .tmp 15) (y:= .tmp 20) rfl zf zf i.out _)<|zk 22 (qh yI)<|zn<|zE<| ?_
 simp only[zP,zI,Act.put,qPx,qPw,qPy];go_wp2;go_ret;exact⟨rfl,(show yM w w w.drew from(yR _ _).drew).trans l⟩
theorem zJk {e:yE} {g n c k:Nat} (j:o.op= .slice t x yB (yA y) yB) (l:ρ x=qZ (yA ⟨g,0,yB⟩) n c) (m:ρ y=qX qm (k:Int)) (s:k<=n) (z:n<=c) (q:0<c)
  (h:P.underlying t=yA (.slice e)) (p:∀w,(sizeOf e).run P w= .ok 1 w) (w:yC):(execOp ρ o).run P w= .ok (.value (qZ (yA ⟨g,0,yB⟩) k c)) w:=by
 have d:P.elem t=e:=by unfold Program.elem;rw[h]
 have f:P.underlying t=yA (.slice (P.elem t)):=by rw[d];exact h
 have i:(Instr.sliceAt t (qZ (yA ⟨g,0,yB⟩) n c) yB (yA (qX qm (k:Int))) yB).run P w= .ok (qZ (yA ⟨g,0,yB⟩) k c) w:=by
  rw[run_sliceAt_slice w t _ _ _ _ f,run_slice_h w t _ n c f qm (k:Int) za za,d,p];simp only[Result.andThen,sliced,Int.toNat_natCast,Nat.zero_mul,Nat.sub_zero,qRs,Kit.addr_add,qRi];rw[qPt za]
 unfold execOp;simp[j,l,m,i]
theorem zVc (K P y:Nat) (x:Wk) (w:yC) (h:WK w K x) (m:w.cell? ⟨P,0,yB⟩=yA (qc (yA ⟨K,0,yB⟩))) (d:x.A.size<=1000) (j:y<=x.A.size):
  yG yK 356 #[ival y,qc (yA ⟨P,0,yB⟩)] w fun e w'=>e=qx (qh yI)/\yM w w w':=by
 have c:=zH (fun W=>zFr x.A x.O x.p x.n x.c za W);unfold qv at c;have l:=h.c0;have q:=h.c1;have s:=h.c2;obtain⟨A,f⟩:=zB x.A;obtain⟨k,i⟩:=zB A.size;rw[f]at c l d j;rw[i]at c d j;have n:decide ((y:Int)<0)=yI:=qP1 za;clear h f i;unfold ival;go_enter func356,ntmps356;go_wp2_with fail;(with_reducible refine(c.out _).mono ?_);rintro e w2 ⟨rfl,g⟩;have p:decide ((k:Int)+1<=(y:Int))=yI:=qP1 za;have HB:=zH g;clear g;go_wp2;go_ret;exact⟨rfl,HB.out⟩
theorem zR1 (w:yC):yG yK 339 #[qX qm 0] w fun e w'=>e=qx (qX qm 0)/\w'=w:=by
 go_enter func339,ntmps339;go_wp2;go_ret;exact⟨rfl,rfl⟩
theorem zRg (w:yC):yG yK 343 #[qX qm 0] w fun e w'=>e=qx (qX qm 0)/\w'=w:=by
 go_enter func343,ntmps343;go_wp2;go_ret;exact⟨rfl,rfl⟩
theorem zUt (K:Nat) (x:Wk) (l r:List Nat) (w:yC) (h:WK w K x) (I:kN l=x.m) (X:x.m<=2000) (L:yt w x.q (l.map ival)) (G:∀p,x.q=yA p->p.block<w.heap.size) (had:Ad x.q x.m x.d) (M:∀y∈l,y<=100000) (k:D l=r) (s:kN r<=x.most) (n:x.most<=100000):
  yG yK 341 #[qc (yA ⟨K,0,yB⟩)] w fun e w'=>∃a c,e=qx (qX qm 0)/\WK w' K {x with q:=a,m:=kN r,d:=c}/\yu w' w.heap.size 3 a (kN r) c (r.map ival)/\Upd w w' K:=by
 have O:=yT (yG yK 37 #[qZ x.q x.m x.d,qX qm (x.most:Int)] w.drew fun e w'=>∃a' c',e=qx (qg #[qZ a' (kN r) c',qX qm 0])/\yu w' w.heap.size 3 a' (kN r) c' (r.map ival)/\yM w w.drew w') (by
  have h:=zFi l x.most x.q x.m x.d w.drew I za L G had M (by rw[k];exact s) n;rw[k]at h;exact h)
 have H:=yT (WK w.drew K x) h;have z:=h.lt;have R:=yT (Upd w w.drew K) ⟨fun _ _ _=>rfl,(yR _ _).drew⟩;clear h I X L G had M k s n;go_enter func341,ntmps341;go_wp2;refine zS [] (fun _=>True) [0,0,2,4,8,0,32,64,128,272,512,1024,1024,4095,12287,20479,65535] 17<|zu 0 4 (zP K 0)<|zp [1,2,3,4,5,6,7,8]<|zk 5 (zP K 0)<|zk 6 (zP K 0)<|zk 7 (zP K 4)<|zt 8 (qZ x.q x.m x.d) (zl 23 7 (H.out.l4))<|zk 9 (zP K 0)<|zk 10 (zP K 0)<|zk 11 (zP K 3)<|zt 12 (qX qm (x.most:Int)) (zl 3 11 (H.out.l3))<|zn<|zx 9 13 37 #[qZ x.q x.m x.d,qX qm (x.most:Int)] O.out<| ?_
 rintro e Y ⟨j,c5,rfl,f,b⟩;have B:=H.out.below b;obtain⟨N,F⟩:=B.qE7 j (kN r) c5;have V:=zH N;refine⟨_,rfl,qy (qy trivial),?_⟩;refine zp [10]<|zk 3 (qg #[qZ j (kN r) c5,qX qm 0])<|zn<|zu 12 15 (qX qm 0)<|zp [11,13,14]<|zk 14 (qZ j (kN r) c5)<|zk 16 (zP K 0)<|zk 17 (zP K 4)<|zn<|zw 15 yB (zr 23 17 14 (V.out)) (qy (qy trivial))<|zp [16]<|zk 2 (qX qm 0)<|zn<|zE<| ?_
 simp only[zP,zI,Act.put,qPx,qPw,qPy];obtain⟨W,S,g⟩:=yV ((R.out.trans (Upd.of_below (show yM w.drew.heap.size w.drew Y from b) (qP7 z))).trans (Upd.set (i:=4) (v:=qZ j (kN r) c5))) (zCz (r:=K) (i:=4) f z (qZ j (kN r) c5)) F;clear b f B F N;go_wp2;go_ret;exact⟨_,_,rfl,g.out,S.out,W.out⟩
theorem qAj (K:Nat) (x:Wk) (l:List Nat) (r:ByteArray) (w:yC) (h:WK w K x) (G:0<x.m) (j:kN l=x.m) (M:x.m<=2000) (I:x.A.size<=1000) (n:yt w x.q (l.map ival)) (m:zIv x.A.data.toList (l.map fun k:Nat=>(k:Int))=r.data.toList) (g:zC3 x.A.data.toList (l.map fun k:Nat=>(k:Int))=0):
  yG yK 342 #[qc (yA ⟨K,0,yB⟩)] w fun e w'=>e=qx (qX qm 0)/\WK w' K {x with by_:=r}/\Upd w w' K:=by
 have q:=yT (yG yK 38 #[qY x.A,qZ x.q x.m x.d] w.drew fun e w'=>e=qx (qg #[qY r,qX qm 0])/\yM w w.drew w') (by
  have h:=zLq x.A I x.q x.d x.m (l.map fun k:Nat=>(k:Int)) (by rw[qQj];exact j) za w.drew (by rw[qRr];exact n);refine h.mono ?_;rintro e w' ⟨rfl,L⟩;rw[m,g];exact⟨rfl,L⟩)
 have H:=yT (WK w.drew K x) h;have s:=h.lt;have z:=yT (Upd w w.drew K) ⟨fun _ _ _=>rfl,(yR _ _).drew⟩;have R:((x.m:Int)==0)=yI:=by rw[qSd];omega
 have O:=h.c4;clear h j M n m g G;go_enter func342,ntmps342;go_wp2;refine zS [] (fun _=>True) [0,0,2,4,8,16,0,64,128,256,544,1024,2048,2048,8191,24575,40959,131071] 18<|zu 0 10 (zP K 0)<|zp [1,2,3,4,5,6,7,8,9]<|zk 11 (zP K 0)<|zk 12 (zP K 0)<|zk 13 (zP K 0)<|zk 14 (zP K 0)<|zt 15 (qY x.A) (zl 9 14 (H.out.l0))<|zk 16 (zP K 0)<|zk 17 (zP K 0)<|zk 18 (zP K 4)<|zt 19 (qZ x.q x.m x.d) (zl 23 18 (H.out.l4))<|zn<|zc 10 20 38 #[qY x.A,qZ x.q x.m x.d] (qg #[qY r,qX qm 0]) q.out<| ?_
 refine fun N c=>⟨qy (qy trivial),?_⟩;have d:=H.out.below c;obtain⟨p,f⟩:=d.qE6 r;have B:=zH p;refine zp [11]<|zk 9 (qg #[qY r,qX qm 0])<|zn<|zu 13 22 (qX qm 0)<|zp [12,14,15]<|zk 21 (qY r)<|zk 23 (zP K 0)<|zk 24 (zP K 5)<|zn<|zw 16 yB (zr 9 24 21 (B.out)) (qy (qy trivial))<|zp [17]<|zk 2 (qX qm 0)<|zn<|zE<| ?_
 simp only[zP,zI,Act.put,qPx,qPw,qPy];obtain⟨F,a⟩:=yU ((z.out.trans (Upd.of_below (show yM w.drew.heap.size w.drew N from c) (qP7 s))).trans (Upd.set (i:=5) (v:=qY r))) f;clear c d f p O;go_wp2;go_ret;exact⟨rfl,a.out,F.out⟩
theorem zX2 (K:Nat) (x:Wk) (r:ByteArray) (w:yC) (h:WK w K x) (s:x.by_.size<=100000) (g:x.O<x.by_.size) (j:unL x.by_ x.O=r.data.toList):
  yG yK 344 #[qc (yA ⟨K,0,yB⟩)] w fun e w'=>e=qx (qX qm 0)/\WK w' K {x with by_:=r}/\Upd w w' K:=by
 have l:=yT (yG yK 39 #[qY x.by_,qX qm (x.O:Int)] w.drew fun e w'=>e=qx (qg #[qY r,qX qm 0])/\yM w w.drew w') (by
  have h:=zHm x.by_ x.O za g w.drew;rw[j]at h;exact h)
 have H:=yT (WK w.drew K x) h;have m:=h.lt;have n:=yT (Upd w w.drew K) ⟨fun _ _ _=>rfl,(yR _ _).drew⟩;clear h s g j;go_enter func344,ntmps344;go_wp2;refine zS [] (fun _=>True) [0,0,2,4,8,0,32,64,128,256,528,1024,2048,2048,8191,24575,40959,131071] 18<|zu 0 4 (zP K 0)<|zp [1,2,3,4,5,6,7,8,9]<|zk 5 (zP K 0)<|zk 6 (zP K 0)<|zk 7 (zP K 5)<|zt 8 (qY x.by_) (zl 9 7 (H.out.l5))<|zk 9 (zP K 0)<|zk 10 (zP K 0)<|zk 11 (zP K 0)<|zk 12 (zP K 1)<|zt 13 (qX qm (x.O:Int)) (zl 3 12 (H.out.l1))<|zn<|zc 10 14 39 #[qY x.by_,qX qm (x.O:Int)] (qg #[qY r,qX qm 0]) l.out<| ?_
 refine fun z c=>⟨qy (qy trivial),?_⟩;have d:=H.out.below c;obtain⟨k,f⟩:=d.qE6 r;have p:=zH k;refine zp [11]<|zk 3 (qg #[qY r,qX qm 0])<|zn<|zu 13 16 (qX qm 0)<|zp [12,14,15]<|zk 15 (qY r)<|zk 17 (zP K 0)<|zk 18 (zP K 5)<|zn<|zw 16 yB (zr 9 18 15 (p.out)) (qy (qy trivial))<|zp [17]<|zk 2 (qX qm 0)<|zn<|zE<| ?_
 simp only[zP,zI,Act.put,qPx,qPw,qPy];obtain⟨q,a⟩:=yU ((n.out.trans (Upd.of_below (show yM w.drew.heap.size w.drew z from c) (qP7 m))).trans (Upd.set (i:=5) (v:=qY r))) f;clear c d f k;go_wp2;go_ret;exact⟨rfl,a.out,q.out⟩
end Sq
namespace Sq
open Front Tn Zr Bt Ix
variable {P K g:Nat} {ρ:Operand->yD} {o:Oper} {t u:yE} {x y:Operand} {k:IntKind} {m n:Int} {r:Bool} {W:yC} {xs:List yD}
theorem zZh {P:Program} (a:o.op= .binOp .lss t x y u) (c:ρ x=qX k m) (d:ρ y=qX k n) (b:decide (m<n)=r) (w:yC):(execOp ρ o).run P w= .ok (.value (qh r)) w:=by
 subst b;unfold execOp;simp[a,c,d,go_sem]
theorem zZg {P:Program} (a:o.op= .binOp .neq t x y u) (c:ρ x=qX k m) (d:ρ y=qX k n) (b:(m !=n)=r) (w:yC):(execOp ρ o).run P w= .ok (.value (qh r)) w:=by
 subst b;unfold execOp;simp[a,c,d,go_sem]
 try rfl
theorem Upd.drew (w:yC) (K:Nat):Upd w w.drew K:=⟨fun _ _ _=>rfl,(yR _ _).drew⟩
structure Se (W:yC) (K P g:Nat) (x:Wk) (xs:List yD):Prop where
 wk:WK W K x
 box:W.cell? ⟨P,0,yB⟩=yA (qc (yA ⟨K,0,yB⟩))
 src:yt W (yA ⟨g,0,yB⟩) xs
theorem Se.below {W':yC} {x:Wk} (h:Se W K P g x xs) (a:yM W W W'):Se W' K P g x xs:=
 ⟨h.wk.below a,by rw[a.cell (qQk h.box)];exact h.box,h.src.below a⟩
theorem Se.lp {x:Wk} (h:Se W K P g x xs):(loadVar 463 ⟨P,0,yB⟩).run yK W= .ok (qc (yA ⟨K,0,yB⟩)) W:=yw h.box zf zf
theorem Se.ls {x:Wk} {l:List Nat} (h:Se W K P g x (l.map ival)) (i:Nat) (hi:i<kN l) (v:Int) (hv:((l[i]:Nat):Int)=v):(loadVar 3 ⟨g,i,yB⟩).run yK W= .ok (qX qm v) W:=by
 obtain⟨b,off,a,c⟩:=h.src i (ival l[i]) (by rw[qP3,qPu hi];rfl);injection a with a
 injection a with h1 h2 _
 subst h1 h2;rw[qQd]at c;subst hv;unfold ival at c;exact yw c zf zf
theorem zX5 (K g n c:Nat) (A:ByteArray) (O most:Nat) (q0:Option yF) (M L:Nat) (I:ByteArray) (l:List Nat) (w:yC) (h:WK w K ⟨A,O,yA ⟨g,0,yB⟩,n+1,c,most,q0,M,L,I⟩) (hn:n<=2000) (hc:n+1<=c) (hl:kN l=n) (hA:A.size<=1000) (a1:∀y∈l,y<=A.size)
  (hs:yt w (yA ⟨g,0,yB⟩) ((l++[A.size+1]).map ival)):
  yG yK 340 #[qc (yA ⟨K,0,yB⟩)] w fun e w'=>e=qx (qX qm 0)/\WK w' K ⟨A,O,yA ⟨g,0,yB⟩,n+1,c,most,yA ⟨g,0,yB⟩,n,c,I⟩/\Upd w w' K:=by
 obtain⟨P,X⟩:=zB w.heap.size;obtain⟨W,Y⟩:=zB (w.alloc (qp #[qc (yA ⟨K,0,yB⟩)] 463));have Z:yM w w W:=by rw[<-Y];exact(yR _ _).alloc (qPq _) _
 have a:Se W K P g ⟨A,O,yA ⟨g,0,yB⟩,n+1,c,most,q0,M,L,I⟩ ((l++[A.size+1]).map ival):=⟨h.below Z,by rw[<-Y,<-X];simp,hs.below Z⟩;have a5:K<P:=by rw[<-X];exact h.lt
 have x2:=a.wk.c2;have xp:=a.box;simp only at x2;have HU:=yT (Upd w W K) (Upd.of_below Z (qP7 h.lt));have z:=yT (Se W.drew K P g ⟨A,O,yA ⟨g,0,yB⟩,n+1,c,most,q0,M,L,I⟩ ((l++[A.size+1]).map ival)) ⟨a.wk,a.box,a.src⟩;have HI:=yT (n<n+1) (qQ8 n);obtain⟨G,HE,s⟩:=yV (fun(W':yC) (R:Se W' K P g ⟨A,O,yA ⟨g,0,yB⟩,n+1,c,most,q0,M,L,I⟩ ((l++[A.size+1]).map ival))=>R.ls n (by simp[hl]) ((A.size:Int)+1) (by rw[List.getElem_append_right za];simp[hl])) (fun W'=>zFr A O (yA ⟨g,0,yB⟩) (n+1) c za W') (fun(W':yC) (R:Se W' K P g ⟨A,O,yA ⟨g,0,yB⟩,n+1,c,most,q0,M,L,I⟩ ((l++[A.size+1]).map ival))=>zYc l 356 (qc (yA ⟨P,0,yB⟩)) (yA ⟨g,0,yB⟩) n c W' hl za (by
   have V:=R.src.take n;rw[<-qTy,qUn za,qQc za]at V;exact V) (zHw func356 rfl rfl) (fun y hy a2 a0=>zVc K P y _ a2 (R.wk.below a0) (R.below a0).box hA (a1 y hy)))
 have p:=yT (yJ ((n:Int)<0)=yI) (qP1 za);have r:=yT ((((A.size:Int)+1)!=((A.size:Int)+1))=yI) (by simp);have HC:=zH hc;have j:=yT (0<c) (by omega);have f:=yT (n<=n+1) (by omega);obtain⟨a4,F⟩:=yU Y X;clear h hl hA a1 hs Z a hc;unfold qv at HE;go_enter func340,ntmps340;go_wp2;clear Y X x2 xp;refine zS [27] (fun W9=>Se W9 K P g ⟨A,O,yA ⟨g,0,yB⟩,n+1,c,most,q0,M,L,I⟩ ((l++[A.size+1]).map ival)) [0,1,2,4,12,20,36,68,4,388,516,4,2052,4100,8196,16388,33796,65540,163840,262144,786432,1310720,2359296,4456448,262144,25427968,262144,100925440,134479872] 29<|zp [0,1,2]<|zk 11 (zI n)<|zt 12 (qh yI) (zZh (k:=qm) (x:= .tmp 11) (y:= .const (qX qm 0)) rfl zf zf p.out _)<|zk 13 (qh yI)<|zn<|zu 8 19 (zI n)<|zy 3 14 (zP K 0) (fun w q=>zl 463 1 (q.lp)) z.out<|zu 4 15 (zP K 0)<|zu 5 16 (zP K 0)<|zu 6 17 (zP K 2)<|zy 7 18 (qZ (yA ⟨g,0,yB⟩) (n+1) c) (fun w q=>zl 23 17 (q.wk.l2)) z.out<|zv 9 20 (zP g n) (fun w=>Kit.zBo (t:=23) (x:=(.tmp 18)) (y:=(.tmp 19)) (g:=g) (n:=n+1) (c:=c) (k:=n) rfl zf zf HI.out underlying23 (fun _=>sizeOf3 _) _)<|zy 10 21 (qX qm ((A.size:Int)+1)) (fun w q=>zl 3 20 (G.out _ q)) z.out<|zp [11,12,13,14]<|zt 22 (zP K 0) ((fun w q=>zl 463 1 (q.lp)) _ (z.out))<|zk 23 (zP K 0)<|zk 24 (zP K 0)<|zt 25 (.agg #[qY A,O,qZ (yA ⟨g,0,yB⟩) (n+1) c]) ((fun w q=>zl 133 24 (q.wk.lq)) _ (z.out))<|zn<|zc 15 26 148 #[.agg #[qY A,O,qZ (yA ⟨g,0,yB⟩) (n+1) c]] (qX qm ((A.size:Int)+1)) (HE.out _)<| ?_
 refine fun w5 H=>⟨qy (qy (z.out.below H)),?_⟩;refine zp [16,17,18,19,20,21,22,23,24,25,26]<|zt 27 (qh yI) (zZg (k:=qm) (x:= .tmp 21) (y:= .tmp 26) rfl zf zf r.out _)<|zk 28 (qh yI)<|zk 29 (qh yI)<|zt 30 (zP K 0) ((fun w q=>zl 463 1 (q.lp)) _ (z.out.below H))<|zk 31 (zP K 0)<|zk 32 (zP K 0)<|zk 33 (zP K 2)<|zt 34 (qZ (yA ⟨g,0,yB⟩) (n+1) c) ((fun w q=>zl 23 33 (q.wk.l2)) _ (z.out.below H))<|zk 35 (zI n)<|zt 36 (qZ (yA ⟨g,0,yB⟩) n c) (zJk (x:= .tmp 34) (y:= .tmp 35) rfl zf zf f.out HC.out j.out underlying23 (fun _=>sizeOf3 _) _)<|zk 37 (.func (.func 356) #[] #[qc (yA ⟨P,0,yB⟩)])<|zn<|zc 27 38 79 #[qZ (yA ⟨g,0,yB⟩) n c,.func (.func 356) #[] #[qc (yA ⟨P,0,yB⟩)]] (qh yI) (s.out _ (z.out.below H))<| ?_
 refine fun w6 S=>⟨qy (qy ((z.out.below H).below S)),?_⟩;refine zp [28]<|zk 39 (qh yI)<|zn<|zE<| ?_
 simp only[zP,zI,Act.put,qPx,qPw,qPy];have N:=(z.out.below H).below S;obtain⟨a3,m⟩:=yU N ((show yM W.drew.heap.size W.drew w5 from H).trans (S.mono H.size));obtain⟨s7,k7⟩:=(show WK w6.drew K _ from N.wk).qE7 (yA ⟨g,0,yB⟩) n c;obtain⟨u,o⟩:=yU s7 k7;have b:=yT (Se w6.drew K P g ⟨A,O,yA ⟨g,0,yB⟩,n+1,c,most,q0,M,L,I⟩ ((l++[A.size+1]).map ival)) ⟨N.wk,N.box,N.src⟩;have B:K<=W.heap.size:=by
  have V:=HU.out.size;rw[F.out]at V;omega
 have d:=zH ((((HU.out.trans (Upd.drew W K)).trans (Upd.of_below m.out B)).trans (Upd.drew w6 K)).trans (Upd.set (i:=4) (v:=qZ (yA ⟨g,0,yB⟩) n c)));clear H S N z s7 k7;go_wp2;refine zS [] (fun _=>True) [0,0,2,4,8,16,0,96,255,511,767] 11<|zp [0,1,2,3,4,5,6,7,8,9]<|zt 40 (zP K 0) (zl 463 1 (b.out.lp))<|zt 41 (zP K 0) (zl 463 1 (b.out.lp))<|zk 42 (zP K 0)<|zk 43 (zP K 0)<|zk 44 (zP K 2)<|zt 45 (qZ (yA ⟨g,0,yB⟩) (n+1) c) (zl 23 44 (b.out.wk.l2))<|zk 46 (zI n)<|zt 47 (qZ (yA ⟨g,0,yB⟩) n c) (zJk (x:= .tmp 45) (y:= .tmp 46) rfl zf zf f.out HC.out j.out underlying23 (fun _=>sizeOf3 _) _)<|zk 48 (zP K 0)<|zk 49 (zP K 4)<|zn<|zw 10 yB (zr 23 49 47 (u.out)) (qy (qy trivial))<|zE<| ?_
 simp only[zP,zI,Act.put,qPx,qPw,qPy];go_wp2;go_ret;exact⟨rfl,o.out,(⟨d.out.old,d.out.below⟩:Upd w _ K)⟩
end Sq
namespace Sq
open Front Us St Zr Bt Ch
def Stg (p:ByteArray) (K g c most:Nat):Nat->yC->Prop
 |0,w=>∃q m d b,WK w K ⟨zAj p,zA8 p,some ⟨g,0,none⟩,kN (sy p)+1,c,most,q,m,d,b⟩/\yt w (some ⟨g,0,none⟩) ((sym p).map ival)
 |1,w=>∃q m d b,WK w K ⟨zAj p,zA8 p,some ⟨g,0,none⟩,kN (sy p)+1,c,most,q,m,d,b⟩/\yt w (some ⟨g,0,none⟩) ((sym p).map ival)
 |2,w=>∃b,WK w K ⟨zAj p,zA8 p,some ⟨g,0,none⟩,kN (sy p)+1,c,most,some ⟨g,0,none⟩,kN (sy p),c,b⟩/\yt w (some ⟨g,0,none⟩) ((sym p).map ival)
 |3,w=>∃q d b,WK w K ⟨zAj p,zA8 p,some ⟨g,0,none⟩,kN (sy p)+1,c,most,q,p.size,d,b⟩/\yt w q ((plc p).map ival)
 |4,w=>∃q m d,WK w K ⟨zAj p,zA8 p,some ⟨g,0,none⟩,kN (sy p)+1,c,most,q,m,d,lastT p⟩
 |_,w=>∃q m d,WK w K ⟨zAj p,zA8 p,some ⟨g,0,none⟩,kN (sy p)+1,c,most,q,m,d,p⟩
theorem Stg.below {p:ByteArray} {K g c most:Nat}:∀{i:Nat} {w w':yC},Stg p K g c most i w->yM w w w'->Stg p K g c most i w'
 |0,_,_,⟨q,m,d,b,h,hs⟩,hb=>⟨q,m,d,b,h.below hb,hs.below hb⟩
 |1,_,_,⟨q,m,d,b,h,hs⟩,hb=>⟨q,m,d,b,h.below hb,hs.below hb⟩
 |2,_,_,⟨b,h,hs⟩,hb=>⟨b,h.below hb,hs.below hb⟩
 |3,_,_,⟨q,d,b,h,hs⟩,hb=>⟨q,d,b,h.below hb,hs.below hb⟩
 |4,_,_,⟨q,m,d,h⟩,hb=>⟨q,m,d,h.below hb⟩
 |_+5,_,_,⟨q,m,d,h⟩,hb=>⟨q,m,d,h.below hb⟩
def zM1 (f K:Nat) (R a:yC->Prop):Prop:=∀w,R w->yG yK f #[qc (yA ⟨K,0,yB⟩)] w fun e w'=>e=qx (qX qm 0)/\a w'/\Upd w w' K
theorem qGw {p:ByteArray} {K g c most:Nat}:∀{i:Nat} {w:yC},Stg p K g c most i w->K<w.heap.size
 |0,_,⟨q,m,d,b,h,hs⟩=>h.lt
 |1,_,⟨q,m,d,b,h,hs⟩=>h.lt
 |2,_,⟨b,h,hs⟩=>h.lt
 |3,_,⟨q,d,b,h,hs⟩=>h.lt
 |4,_,⟨q,m,d,h⟩=>h.lt
 |_+5,_,⟨q,m,d,h⟩=>h.lt
section
variable {p:ByteArray} {K g c most:Nat}
theorem step0 (f:0<p.size):zM1 338 K (Stg p K g c most 0) (Stg p K g c most 1):=fun w ⟨q,m,d,b,h,j⟩=>
 (zSp K _ w h (zMz p f) (by show(zAj p).size<=1000;have:=zFk p;omega) (zVu p)).mono fun e w' ⟨i,a⟩=>⟨i,⟨q,m,d,b,h.below a,j.below a⟩,Upd.of_below a (qP7 h.lt)⟩
theorem step1 (j:0<p.size) (r:p.size<=1000) (n:g≠K) (k:kN (sy p)+1<=c):zM1 340 K (Stg p K g c most 1) (Stg p K g c most 2):=fun w ⟨q,m,d,b,h,f⟩=>
 (zX5 K g (kN (sy p)) c (zAj p) (zA8 p) most q m d b (sy p) w h (by have:=zL1 p;omega) k rfl (by have:=zFk p;omega) (zPm p j) f).mono fun e w' ⟨l,o,i⟩=>⟨l,⟨b,o,i.src f (fun q a=>by injection a with a;subst a;exact n)⟩,i⟩
theorem step2 (t:0<p.size) (H:p.size<=1000) (M:g≠K) (L:kN (sy p)+1<=c) (r:c<=9223372036854775807) (x:p.size<=most) (s:most<=100000):zM1 341 K (Stg p K g c most 2) (Stg p K g c most 3):=fun w ⟨b,h,o⟩=>by
 have G:=zL1 p;have j:yt w (yA ⟨g,0,yB⟩) ((sy p).map ival):=by
  have k:=o.take (kN (sy p));rw[<-qTy]at k;unfold sym at k;rw[List.take_left']at k
  .exact k
  .rfl
 have i:∀q,(yA ⟨g,0,yB⟩:Option yF)=yA q->q.block<w.heap.size:=fun q m=>by
  injection m with m
  subst m;obtain⟨b',off,l,f⟩:=o 0 (ival ((sym p)[0]'(by rw[zCv];omega))) (by rw[qP3,qPu (by rw[zCv];omega)];rfl);injection l with l
  rw[l];exact qQk f
 refine(zUt K _ (sy p) (plc p) w h rfl (by show(sy p).length<=2000;omega) j i (qy ⟨by show(sy p).length<=c;omega,r,g,0,rfl⟩) (fun y F=>by have k:=zPm p t y F;have I:=zFk p;omega) (zP0 p) (by show(plc p).length<=most;rw[zDb];exact x) s).mono fun e w' ⟨a,d,u,n,z,B⟩=> ?_;rw[zDb]at n;exact⟨u,⟨a,d,b,n,z.src⟩,B⟩
theorem qG1 (a:0<p.size) (l:p.size<=1000):zM1 342 K (Stg p K g c most 3) (Stg p K g c most 4):=fun w ⟨q,d,b,h,j⟩=>
 (qAj K _ (plc p) (lastT p) w h a (zDb p) (by show p.size<=2000;omega) (by show(zAj p).size<=1000;have:=zFk p;omega) j (zK9 p a).1 (zK9 p a).2).mono fun e w' ⟨f,i,k⟩=>⟨f,⟨q,_,d,i⟩,k⟩
theorem qG0 (a:0<p.size) (j:p.size<=1000):zM1 344 K (Stg p K g c most 4) (Stg p K g c most 5):=fun w ⟨q,m,d,h⟩=>
 (zX2 K _ p w h (by show(lastT p).size<=100000;rw[zCp];omega) (by show zA8 p<(lastT p).size;rw[zCp];exact zDq p a) (zTa p a)).mono fun e w' ⟨b,f,i⟩=>⟨b,⟨q,m,d,f⟩,i⟩
end
abbrev fn (n:Nat):yD:= .func (.func n) #[] #[]
def zIp:Array yD:= #[fn 338,fn 339,fn 340,fn 339,fn 341,fn 339,fn 342,fn 343,fn 344,fn 343]
abbrev TS_:yE:=467
theorem qCl (p:ByteArray) (K S g c most:Nat) (w:yC) (I:0<p.size) (M:p.size<=1000) (R:g≠K) (O:kN (sy p)+1<=c) (V:c<=9223372036854775807) (hm:p.size<=most) (X:most<=100000) (h:Stg p K g c most 0 w) (t:w.heap[S]? =yA (qp zIp TS_)) (L:S≠K):
  yG yK 337 #[qc (yA ⟨K,0,yB⟩),qZ (yA ⟨S,0,yB⟩) 5 5] w fun e w'=>e=qx .nilIface/\Stg p K g c most 5 w'/\Upd w w' K:=by
 obtain⟨C0,C1,C2,C3,C4,H,Y,Z⟩:=yh (step0 (K:=K) (g:=g) (c:=c) (most:=most) I) (step1 (most:=most) I M R O) (step2 I M R O V hm X) (qG1 (K:=K) (g:=g) (c:=c) (most:=most) I M) (qG0 (K:=K) (g:=g) (c:=c) (most:=most) I M) h t (Upd.refl w K);clear I M R O V hm X h t;go_enter func337,ntmps337;go_wp2;go_loopw [10] (fun iv wr=>∃i:Nat,i<=5/\iv=qX qm i/\yL (Stg p K g c most i wr)/\yL (wr.heap[S]? =yA (qp zIp TS_))/\yL (Upd w wr K)) (fun iv _=>5-(intOf iv).toNat)
 case atStart=>exact⟨0,za,rfl,H,Y,Z⟩
 case round=>
  clear H Y Z;obtain⟨i,hi,rfl,k,y,z⟩:=hrel;by_cases q:i=5
  .subst q;rw[show((5:Nat):Int)=(5:Int)from rfl];go_wp2;go_ret;exact⟨rfl,k.out,z.out⟩
  .obtain⟨P,x⟩:=zB wr.heap.size;have a0:K<P:=by rw[<-x];exact qGw k.out
   have a1:S<P:=by rw[<-x];exact zAd y.out
   have a:∀(j:Nat) (v:yD),zIp[j]? =yA v->wr.cell? ⟨S,j,yB⟩=yA v:=fun j v hv=>by simp[yQ,y.out,hv]
   obtain rfl|rfl|rfl|rfl|rfl:i=0\/i=1\/i=2\/i=3\/i=4:=za
   .rw[show((0:Nat):Int)=(0:Int)from rfl];have F:=a 0 (fn 338) rfl;have G:=a 1 (fn 339) rfl;obtain⟨W,s⟩:=zB (wr.alloc (qp #[.func (.func 338) #[] #[],.func (.func 339) #[] #[]] TS_));have b:yM wr wr W:=by rw[<-s];exact(yR _ _).alloc (qPq _) _
    have r:=yT (W.drew.heap[P]? =yA (qp #[.func (.func 338) #[] #[],.func (.func 339) #[] #[]] TS_)) (by show W.heap[P]? =_;rw[<-s,<-x];exact zAh wr _);have u:=yT (Stg p K g c most 0 W.drew) ((k.out.below b).below (show yM W W W.drew from(yR _ _).drew));obtain⟨f,d⟩:=yU ((b.block S za).trans y.out) ((z.out.trans (Upd.of_below b za)).trans (Upd.drew W K));have m:P<W.heap.size:=by rw[<-s,zA];omega
    clear a k y z b;go_wp2;clear s x F G;refine zS [6] (fun B=>B.heap[P]? =yA (qp #[.func (.func 338) #[] #[],.func (.func 339) #[] #[]] TS_)) [0,1,0,4,0,24,34,127] 8<|zu 0 15 (zP P 1)<|zy 1 16 (fn 339) (fun w t=>zl 465 15 (yw (zAf t).2.1 zf zf)) r.out<|zp [2,3,4]<|zk 17 (zP P 0)<|zt 18 (fn 338) ((fun w t=>zl 464 17 (yw (zAf t).1 zf zf)) _ (r.out))<|zk 19 (zP K 0)<|zn<|zc 5 20 338 #[qc (yA ⟨K,0,yB⟩)] (qX qm 0) (C0.out _ u.out)<| ?_
    refine fun N q=>⟨qy (qy ((q.2.old P m za).trans r.out)),?_⟩;refine zd 6 21 339 #[qX qm 0] (qX qm 0) (zR1 _)<|zp [7]<|zk 7 (qX qm 0)<|zn<|zE<| ?_
    simp only[zP,zI,Act.put,qPx,qPw,qPy];obtain⟨o,n,l⟩:=yV q.1 ((q.2.old S (by show S<W.heap.size;omega) L).trans f.out) (d.out.trans q.2);clear q u f d r;go_wp2;go_roundw
    case rel=>exact⟨1,za,by go_num,o,n,l⟩
    case measure=>simp[intOf]
   .rw[show((1:Nat):Int)=(1:Int)from rfl];have F:=a 2 (fn 340) rfl;have G:=a 3 (fn 339) rfl;obtain⟨W,s⟩:=zB (wr.alloc (qp #[.func (.func 340) #[] #[],.func (.func 339) #[] #[]] TS_));have b:yM wr wr W:=by rw[<-s];exact(yR _ _).alloc (qPq _) _
    have r:=yT (W.drew.heap[P]? =yA (qp #[.func (.func 340) #[] #[],.func (.func 339) #[] #[]] TS_)) (by show W.heap[P]? =_;rw[<-s,<-x];exact zAh wr _);have u:=yT (Stg p K g c most 1 W.drew) ((k.out.below b).below (show yM W W W.drew from(yR _ _).drew));obtain⟨f,d⟩:=yU ((b.block S za).trans y.out) ((z.out.trans (Upd.of_below b za)).trans (Upd.drew W K));have m:P<W.heap.size:=by rw[<-s,zA];omega
    clear a k y z b;go_wp2;clear s x F G;refine zS [6] (fun B=>B.heap[P]? =yA (qp #[.func (.func 340) #[] #[],.func (.func 339) #[] #[]] TS_)) [0,1,0,4,0,24,34,127] 8<|zu 0 15 (zP P 1)<|zy 1 16 (fn 339) (fun w t=>zl 465 15 (yw (zAf t).2.1 zf zf)) r.out<|zp [2,3,4]<|zk 17 (zP P 0)<|zt 18 (fn 340) ((fun w t=>zl 464 17 (yw (zAf t).1 zf zf)) _ (r.out))<|zk 19 (zP K 0)<|zn<|zc 5 20 340 #[qc (yA ⟨K,0,yB⟩)] (qX qm 0) (C1.out _ u.out)<| ?_
    refine fun N q=>⟨qy (qy ((q.2.old P m za).trans r.out)),?_⟩;refine zd 6 21 339 #[qX qm 0] (qX qm 0) (zR1 _)<|zp [7]<|zk 7 (qX qm 0)<|zn<|zE<| ?_
    simp only[zP,zI,Act.put,qPx,qPw,qPy];obtain⟨o,n,l⟩:=yV q.1 ((q.2.old S (by show S<W.heap.size;omega) L).trans f.out) (d.out.trans q.2);clear q u f d r;go_wp2;go_roundw
    case rel=>exact⟨2,za,by go_num,o,n,l⟩
    case measure=>simp[intOf]
   .rw[show((2:Nat):Int)=(2:Int)from rfl];have F:=a 4 (fn 341) rfl;have G:=a 5 (fn 339) rfl;obtain⟨W,s⟩:=zB (wr.alloc (qp #[.func (.func 341) #[] #[],.func (.func 339) #[] #[]] TS_));have b:yM wr wr W:=by rw[<-s];exact(yR _ _).alloc (qPq _) _
    have r:=yT (W.drew.heap[P]? =yA (qp #[.func (.func 341) #[] #[],.func (.func 339) #[] #[]] TS_)) (by show W.heap[P]? =_;rw[<-s,<-x];exact zAh wr _);have u:=yT (Stg p K g c most 2 W.drew) ((k.out.below b).below (show yM W W W.drew from(yR _ _).drew));obtain⟨f,d⟩:=yU ((b.block S za).trans y.out) ((z.out.trans (Upd.of_below b za)).trans (Upd.drew W K));have m:P<W.heap.size:=by rw[<-s,zA];omega
    clear a k y z b;go_wp2;clear s x F G;refine zS [6] (fun B=>B.heap[P]? =yA (qp #[.func (.func 341) #[] #[],.func (.func 339) #[] #[]] TS_)) [0,1,0,4,0,24,34,127] 8<|zu 0 15 (zP P 1)<|zy 1 16 (fn 339) (fun w t=>zl 465 15 (yw (zAf t).2.1 zf zf)) r.out<|zp [2,3,4]<|zk 17 (zP P 0)<|zt 18 (fn 341) ((fun w t=>zl 464 17 (yw (zAf t).1 zf zf)) _ (r.out))<|zk 19 (zP K 0)<|zn<|zc 5 20 341 #[qc (yA ⟨K,0,yB⟩)] (qX qm 0) (C2.out _ u.out)<| ?_
    refine fun N q=>⟨qy (qy ((q.2.old P m za).trans r.out)),?_⟩;refine zd 6 21 339 #[qX qm 0] (qX qm 0) (zR1 _)<|zp [7]<|zk 7 (qX qm 0)<|zn<|zE<| ?_
    simp only[zP,zI,Act.put,qPx,qPw,qPy];obtain⟨o,n,l⟩:=yV q.1 ((q.2.old S (by show S<W.heap.size;omega) L).trans f.out) (d.out.trans q.2);clear q u f d r;go_wp2;go_roundw
    case rel=>exact⟨3,za,by go_num,o,n,l⟩
    case measure=>simp[intOf]
   .rw[show((3:Nat):Int)=(3:Int)from rfl];have F:=a 6 (fn 342) rfl;have G:=a 7 (fn 343) rfl;obtain⟨W,s⟩:=zB (wr.alloc (qp #[.func (.func 342) #[] #[],.func (.func 343) #[] #[]] TS_));have b:yM wr wr W:=by rw[<-s];exact(yR _ _).alloc (qPq _) _
    have r:=yT (W.drew.heap[P]? =yA (qp #[.func (.func 342) #[] #[],.func (.func 343) #[] #[]] TS_)) (by show W.heap[P]? =_;rw[<-s,<-x];exact zAh wr _);have u:=yT (Stg p K g c most 3 W.drew) ((k.out.below b).below (show yM W W W.drew from(yR _ _).drew));obtain⟨f,d⟩:=yU ((b.block S za).trans y.out) ((z.out.trans (Upd.of_below b za)).trans (Upd.drew W K));have m:P<W.heap.size:=by rw[<-s,zA];omega
    clear a k y z b;go_wp2;clear s x F G;refine zS [6] (fun B=>B.heap[P]? =yA (qp #[.func (.func 342) #[] #[],.func (.func 343) #[] #[]] TS_)) [0,1,0,4,0,24,34,127] 8<|zu 0 15 (zP P 1)<|zy 1 16 (fn 343) (fun w t=>zl 465 15 (yw (zAf t).2.1 zf zf)) r.out<|zp [2,3,4]<|zk 17 (zP P 0)<|zt 18 (fn 342) ((fun w t=>zl 464 17 (yw (zAf t).1 zf zf)) _ (r.out))<|zk 19 (zP K 0)<|zn<|zc 5 20 342 #[qc (yA ⟨K,0,yB⟩)] (qX qm 0) (C3.out _ u.out)<| ?_
    refine fun N q=>⟨qy (qy ((q.2.old P m za).trans r.out)),?_⟩;refine zd 6 21 343 #[qX qm 0] (qX qm 0) (zRg _)<|zp [7]<|zk 7 (qX qm 0)<|zn<|zE<| ?_
    simp only[zP,zI,Act.put,qPx,qPw,qPy];obtain⟨o,n,l⟩:=yV q.1 ((q.2.old S (by show S<W.heap.size;omega) L).trans f.out) (d.out.trans q.2);clear q u f d r;go_wp2;go_roundw
    case rel=>exact⟨4,za,by go_num,o,n,l⟩
    case measure=>simp[intOf]
   .rw[show((4:Nat):Int)=(4:Int)from rfl];have F:=a 8 (fn 344) rfl;have G:=a 9 (fn 343) rfl;obtain⟨W,s⟩:=zB (wr.alloc (qp #[.func (.func 344) #[] #[],.func (.func 343) #[] #[]] TS_));have b:yM wr wr W:=by rw[<-s];exact(yR _ _).alloc (qPq _) _
    have r:=yT (W.drew.heap[P]? =yA (qp #[.func (.func 344) #[] #[],.func (.func 343) #[] #[]] TS_)) (by show W.heap[P]? =_;rw[<-s,<-x];exact zAh wr _);have u:=yT (Stg p K g c most 4 W.drew) ((k.out.below b).below (show yM W W W.drew from(yR _ _).drew));obtain⟨f,d⟩:=yU ((b.block S za).trans y.out) ((z.out.trans (Upd.of_below b za)).trans (Upd.drew W K));have m:P<W.heap.size:=by rw[<-s,zA];omega
    clear a k y z b;go_wp2;clear s x F G;refine zS [6] (fun B=>B.heap[P]? =yA (qp #[.func (.func 344) #[] #[],.func (.func 343) #[] #[]] TS_)) [0,1,0,4,0,24,34,127] 8<|zu 0 15 (zP P 1)<|zy 1 16 (fn 343) (fun w t=>zl 465 15 (yw (zAf t).2.1 zf zf)) r.out<|zp [2,3,4]<|zk 17 (zP P 0)<|zt 18 (fn 344) ((fun w t=>zl 464 17 (yw (zAf t).1 zf zf)) _ (r.out))<|zk 19 (zP K 0)<|zn<|zc 5 20 344 #[qc (yA ⟨K,0,yB⟩)] (qX qm 0) (C4.out _ u.out)<| ?_
    refine fun N q=>⟨qy (qy ((q.2.old P m za).trans r.out)),?_⟩;refine zd 6 21 343 #[qX qm 0] (qX qm 0) (zRg _)<|zp [7]<|zk 7 (qX qm 0)<|zn<|zE<| ?_
    simp only[zP,zI,Act.put,qPx,qPw,qPy];obtain⟨o,n,l⟩:=yV q.1 ((q.2.old S (by show S<W.heap.size;omega) L).trans f.out) (d.out.trans q.2);clear q u f d r;go_wp2;go_roundw
    case rel=>exact⟨5,za,by go_num,o,n,l⟩
    case measure=>simp[intOf]
end Sq
namespace Sq
open Front Us Tn St Zr Bt Ch
theorem qGk (v:yD) (w:yC):yG yK 345 #[.nilIface,v] w fun e w'=>e=qx (qh yI)/\w'=w:=by
 go_enter func345,ntmps345;go_wp2;go_ret;exact⟨rfl,rfl⟩
theorem zSl (p:ByteArray) (g c most:Nat) (w:yC) (X:0<p.size) (Y:p.size<=1000) (Z:kN (sy p)+1<=c) (V:c<=9223372036854775807) (hm:p.size<=most) (W:most<=100000) (R:yt w (yA ⟨g,0,yB⟩) ((sym p).map ival)):
  yG yK 319 #[qv (zAj p) (zA8 p) (yA ⟨g,0,yB⟩) (kN (sy p)+1) c,most] w fun e w'=>e=qx (qg #[qY p,qX qm 0])/\yM w w w':=by
 have F:g<w.heap.size:=by
  obtain⟨b',off,y,s⟩:=R 0 (ival ((sym p)[0]'(by rw[zCv];omega))) (by rw[qP3,qPu (by rw[zCv];omega)];rfl);injection y with y
  injection y with h2 _ _
  subst h2;exact qQk s
 obtain⟨B,K⟩:=zB w.heap.size;obtain⟨A,I⟩:=zB (zAj p);obtain⟨O,L⟩:=zB (zA8 p);obtain⟨n,M⟩:=zB (kN (sy p)+1);obtain⟨N,h⟩:=zB (w.alloc (qp #[qY A,O,qZ (yA ⟨g,0,yB⟩) n c] TQ));obtain⟨G,a⟩:=zB (N.alloc (qp #[qY A,O,qZ (yA ⟨g,0,yB⟩) n c,most,qZ yB 0 0,qY ⟨#[]⟩] TK));obtain⟨H,f⟩:=zB (G.alloc (qp #[qX qm 0] 461));obtain⟨z,b⟩:=zB (H.alloc (qp zIp TS_));have S:N.heap.size=B+1:=by rw[<-h,zA,K]
 have z2:G.heap.size=B+2:=by rw[<-a,zA,S]
 have z3:H.heap.size=B+3:=by rw[<-f,zA,z2]
 have y:yM B w z:=by
  rw[<-b,<-f,<-a,<-h,<-K];exact((((yR _ _).alloc (qPq _) _).alloc (by rw[zA];omega) _).alloc (by rw[zA,zA];omega) _).alloc (by rw[zA,zA,zA];omega) _
 have k2:G.heap[B+1]? =yA (qp #[qY A,O,qZ (yA ⟨g,0,yB⟩) n c,most,qZ yB 0 0,qY ⟨#[]⟩] TK):=by rw[<-a,<-S];exact zAh N _
 have k4:z.heap[B+1]? =yA (qp #[qY A,O,qZ (yA ⟨g,0,yB⟩) n c,most,qZ yB 0 0,qY ⟨#[]⟩] TK):=by
  rw[<-b,Lib.alloc_old H _ _ za,<-f,Lib.alloc_old G _ _ za];exact k2
 have s4:z.heap[B+3]? =yA (qp zIp TS_):=by rw[<-b,<-z3];exact zAh H _
 obtain⟨i,HB,u,k,o,j,l⟩:=yg (qCl p (B+1) (B+3) g c most z X Y za Z V hm W ⟨yB,0,0,⟨#[]⟩,by rw[I,L,M];exact k4,R.below (by rw[K];exact y)⟩ s4 za) y K h a f b;rw[I,L,M];unfold qv;have HO:=zH (yS I (yS L M));clear R y I L M h a f b S z2 z3 k2 k4 s4 X Y Z V hm W F;go_enter func319,ntmps319;go_wp2_with fail;rw[show B+1+1+1=B+3 from rfl];rw[show(((w.alloc (qp #[qY A,O,qZ (yA ⟨g,0,yB⟩) n c] TQ)).alloc (qp #[qY A,O,qZ (yA ⟨g,0,yB⟩) n c,most,qZ yB 0 0,qY ⟨#[]⟩] TK)).alloc (qp #[qX qm 0] 461)).alloc (qp #[.func (.func 338) #[] #[],.func (.func 339) #[] #[],.func (.func 340) #[] #[],.func (.func 339) #[] #[],.func (.func 341) #[] #[],.func (.func 339) #[] #[],.func (.func 342) #[] #[],.func (.func 343) #[] #[],.func (.func 344) #[] #[],.func (.func 343) #[] #[]] TS_)=z from by rw[k.out,o.out,j.out];exact l.out];(with_reducible refine i.out.mono ?_);rintro e w5 ⟨rfl,r,hu⟩;obtain⟨q,m,d,P⟩:=r;obtain⟨t,HK⟩:=yU (HB.out.trans (hu.below.mono za)) P;have x5:=P.c5;simp only at x5;have x:=zH (fun(v:yD) (w:yC)=>qGk v w);clear P hu i HB k o j l HO;go_wp2_with fail;(with_reducible refine(x.out _ _).mono ?_);rintro e w6 ⟨rfl,rfl⟩;go_wp2;go_ret2;exact⟨rfl,by rw[u.out];exact t.out⟩
end Sq
namespace Sl
open Front Bt Zr
def kOf (b:Bool) (x:Nat):Nat:=if x=b.toNat then 0 else 1
theorem qE8 (b:Bool) (x:Nat):zC8 b x=yP (kOf b x) yH++[yI]:=by unfold zC8 kOf;split<;>rfl
theorem qFs (b:Bool) (x:Nat):kOf b x<=1:=by unfold kOf;split<;>omega
theorem zVa (R:Nat) (b:Bool) (x:Nat) (g:x<=1) (w:yC) (h:Pl w R b):
  yG yK 94 #[qc (yA ⟨R,0,yB⟩),qX qm (kOf b x:Int)] w fun e w'=>e=qx (qX qm (x:Int))/\Pl w' R (x==1)/\Ch R w w':=by
 by_cases a:x=b.toNat
 .have d:kOf b x=0:=by unfold kOf;rw[qPr a]
  have f:(x==1)=b:=by rw[a];cases b<;>rfl
  rw[d,f,a];exact zMq R b w h
 .have d:kOf b x=1:=by unfold kOf;rw[qPt a]
  have c:x=(!b).toNat:=by cases b<;>simp at a⊢<;>omega
  have f:(x==1)= !b:=by rw[c];cases b<;>rfl
  rw[d,f,c];exact zMp R b w h
theorem qGi {s:ByteArray} {q k:Nat} (h:At s q (yP k yH++[yI])) (u:Nat) (g:u<=k):q+u+1<=8*s.size/\val (take s (q+u) 1)=(yJ (u<k)).toNat:=by
 have c:=h.1;simp at c;refine⟨za,?_⟩;have d:=h.2;have a:=zKy s q (kN (yP k yH++[yI])) u zq;rw[d]at a;have e:take s (q+u) 1=[zBm s (q+u)]:=by simp[take]
 rw[e];have f:zBm s (q+u)=yJ (u<k):=by
  rcases qP8 u k with b|b
  .rw[List.getElem?_append_left (by simpa using b),List.getElem?_replicate,if_pos b]at a;rw[qQ b];exact(qPv a).symm
  .obtain rfl:u=k:=za
   rw[qS3 zm]at a;simp at a;rw[qP1 za];exact a
 rw[f];simp[val]
theorem zOa (s:ByteArray) (at_:Nat) (l:List Nat) (n:Nat) (w:yC) (hn:kN l=n) (a5:n<=10000) (hs:s.size<=100000000) (hl:∀x∈l,x<=1) (ha:At s at_ (zAz yI l)):
  yG yK 34 #[qY s,at_,n,qX qm 2] w fun e w'=>∃a' c',e=qx (qg #[qZ a' n c',qX qm ((at_+kN (zAz yI l):Nat):Int),qX qm 0])/\yu w' w.heap.size 3 a' n c' (l.map ival)/\yM w w w':=by
 obtain⟨B,hB⟩:=zB w.heap.size;obtain⟨HF,HO⟩:=yU (zC9 w) (zTq w);rw[hB]at HO;obtain⟨HL,HN⟩:=yU hl hn;obtain⟨J,y⟩:=zB (at_+kN (zAz yI l));rw[y];obtain⟨HA,HJ⟩:=yU ha y;have a4:at_<=8*s.size:=by have:=ha.1;omega
 have h1:decide ((at_:Int)<0)=yI:=qP1 za;have h2:decide ((n:Int)<0)=yI:=qP1 za;have h3:decide ((1048576:Int)<(n:Int))=yI:=qP1 za;clear ha hl hn y;rw[hB];go_enter func34,ntmps34;go_wp2_with fail;(with_reducible refine HF.out.mono ?_);rintro e w2 ⟨rfl,rfl⟩;go_wp2_with fail;(with_reducible refine HO.out.mono ?_);rintro e w3 ⟨rfl,t,P⟩;obtain⟨P3,H⟩:=yU t P;have I:B<w3.heap.size:=zAd t;clear t P HF HO h1 h2 h3;go_wp2;go_loopw [1,8,33] (fun av v i wr=>∃(j q:Nat) (b:Bool) (p:Option yF) (c:Nat),j<=n/\i=qX qm j/\av=qX qm q/\v=qZ p j c/\yL (At s q (zAz b (l.drop j)))/\yL (q+kN (zAz b (l.drop j))=J)/\yL (Pl wr B b)/\yL (yu wr (B+1) 3 p j c ((l.take j).map ival))/\yL (yM B w2 wr)/\B<wr.heap.size) (fun _ _ i _=>n-(intOf i).toNat)
 case atStart=>exact⟨0,at_,yI,yB,0,za,rfl,rfl,rfl,by rw[qR1];exact HA,by rw[qR1];exact HJ,P3,zH (Kit.Own.start _ _ _),H,I⟩
 case round=>
  clear HA HJ P3 H I;obtain⟨j,q,b,p,c,hj,rfl,rfl,rfl,hA,y,hp,d,hb,hz⟩:=hrel;by_cases X:j<n
  .have o:j<kN l:=by rw[HN.out];exact X
   obtain⟨x,hx⟩:=zB (l[j]);have a0:x<=1:=by rw[<-hx];exact HL.out _ (qP9 o)
   have hd:=zOd l j b o;rw[hx]at hd;have m:=hA.out;rw[hd]at m;obtain⟨a1,a2⟩:=At.app.1 m;have K:=y.out;rw[hd,qP0]at K;have a:l.take (j+1)=l.take j++[x]:=by rw[qQp o,hx]
   obtain⟨S,A2⟩:=yU a a2;have J2:=yT (q+kN (zC8 b x)+kN (zAz (x==1) (l.drop (j+1)))=J) (by omega);clear hd m K a hx hA y a2;rw[qE8]at a1 A2 J2;have Z:=qFs b x;have L:=zH (zVa B b x a0);obtain⟨k,hk⟩:=zB (kOf b x);rw[hk]at a1 A2 J2 Z L;rw[qP0,qT0,show[yI].length=1 from rfl]at A2 J2;have Y:=zH (qGi a1);clear a1 hk;go_wp2;go_loopw [1,8,12] (fun av v8 ov w=>∃(u:Nat),v8=qZ p j c/\u<=k/\av=qX qm ((q:Int)+(u:Int))/\ov=qX qm u/\w=wr) (fun _ _ ov _=>k-(intOf ov).toNat)
   case atStart=>exact⟨0,rfl,za,zm,rfl,rfl⟩
   case round=>
    obtain⟨u,rfl,hu,rfl,rfl,rfl⟩:=hrel;obtain⟨g1,g2⟩:=Y.out u hu;have z:=zH (zB7 s (q+u) 1 za g1 za wr);rw[g2,show((1:Nat):Int)=1 from rfl,qTs]at z;clear g2;by_cases W:u<k
    .rw[qQ W,show((true.toNat:Nat):Int)=1 from rfl]at z;obtain⟨x0,x1,fz,x6⟩:=zQs hp.out;have hne:((u:Int)+1==2)=yI:=zq
     clear fz x0 x1;go_wp2_with fail;(with_reducible refine z.out.mono ?_);rintro e w4 ⟨rfl,rfl⟩;go_wp2;go_roundw
     case rel=>exact⟨u+1,rfl,za,by push_cast;rw[Int.add_assoc],by go_num,trivial⟩
     case measure=>exact z8
    .obtain rfl:u=k:=za
     rw[qP1 za,show((false.toNat:Nat):Int)=0 from rfl]at z;go_wp2_with fail;(with_reducible refine z.out.mono ?_);rintro e w4 ⟨rfl,rfl⟩;clear z;have R:=zH (L.out wr hp.out);go_wp2_with fail;(with_reducible refine R.out.mono ?_);rintro e w5 ⟨rfl,G,g⟩;have a6:=g.below.size;obtain⟨P5,B5⟩:=yU G (hb.out.trans (g.below.mono (qPq _)));have r:yu w5 (B+1) 3 p j c ((l.take j).map ival):=zJs d.out (fun k h1 _=>g.old k za);obtain⟨p3,c3,w6,a3,F,M⟩:=Kit.Own.app (ty:=23) (w:=w5.alloc (qp #[x] 3)) zNn (r.alloc _) (yA ⟨w5,0,yB⟩) 1 1 [ival x] (Kit.zAs w5 _ 3) rfl (fun h=>by cases h) (zDr [x]) (by unfold maxLen;omega) za zq;rw[show(l.take j).map ival++[ival x]=(l.take (j+1)).map ival by rw[S.out,qQb];rfl]at F;have O:=r.block;have f:yM (B+1) w5 w6:=((yR _ _).alloc za _).trans ((yR _ _).grown M zq (fun k hk=>O k hk));have P6:=yT (Pl w6 B (x==1)) ((f.block B za).trans G);have B6:=zH (B5.out.trans (f.mono za));have a7:=f.size;have O6:=zH F;clear G g r F M O f P5 B5;go_wp2_with (at_builtin;refine xG rfl (.tmp 56) (.tmp 62) 23 rfl rfl rfl a3 ?_);go_roundw
     case rel=>exact⟨j+1,q+(u+1),(x==1),p3,c3,za,by go_num,by push_cast;rw[Int.add_assoc],rfl,A2,J2,P6,O6,B6,za⟩
     case measure=>exact z8
  .obtain rfl:j=n:=za
   have N:J=q:=by
    have:=y.out;rw[qSv (by rw[HN.out];omega),zAz]at this;simpa using this.symm
   have a:l.take j=l:=qQc (by rw[HN.out];omega);rw[a]at d;have V:=zH N;clear N a;go_wp2
   try simp only[Exit.inBlock,Exit.then]
   refine qP5 (v:=qg #[qZ p j c,q,qX qm 0]) (by simp[results,f34,go_sem]) rfl ⟨p,c,by rw[V.out],d.out.base za,hb.out⟩
end Sl
namespace Hf
open Go.Shelf Front Bt Zr Rg
variable {l m B a:Nat} {pre:List Nat} {w0 W:yC} {s:ByteArray} {o:Obj}
attribute [local go_sem] Oper.semAt_some
theorem zXh (l:List Nat) (n m:Nat):(lv l n m).Pairwise (·<·):=by
 unfold lv;exact List.Pairwise.filter _ (List.pairwise_lt_range' (step:=1) za)
theorem qFq (l:List Nat) (k:Nat) (b:1<=k) (c:k<=20) (h:0<cnt l k):k∈lv l 1 20:=by
 unfold lv;rw[qT1,List.mem_range'];exact⟨⟨k-1,za,za⟩,by simpa using h⟩
theorem qC9 {l:List Nat} {x:Nat} (e:pre++[x]<+:lv l 1 20) (b:m∈lv l 1 20) (d:∀k∈pre,k<m):x<=m:=by
 obtain⟨r,f⟩:=e;have c:=zXh l 1 20;rw[<-f]at c b;rcases qSi.1 b with h|h
 .rcases qSi.1 h with h|h
  .exact absurd (d _ h) za
  .rw[qRe]at h;omega
 .have:=(List.pairwise_append.1 c).2.2 x zm m h;omega
structure TI (B:Nat) (w0:yC) (s:ByteArray) (at_ m:Nat) (pre:List Nat) (W:yC):Prop where
 b0:Boxed W B 9 (qY s)
 b1:Boxed W (B+1) 3 (qX qm (at_:Int))
 b2:Boxed W (B+2) 3 (qX qm 0)
 b3:Boxed W (B+3) 3 (qX qm 0)
 b4:Boxed W (B+4) 26 (qX qm 0)
 below:yM B w0 W
 less:∀k∈pre,k<m
 size:B+5<=W.heap.size
theorem TI.keep {W':yC} (h:TI B w0 s a m pre W) (b:yM W W W'):TI B w0 s a m pre W':=by
 have c:=h.size;exact⟨zAp h.b0 (b.block _ za),zAp h.b1 (b.block _ za),zAp h.b2 (b.block _ za),zAp h.b3 (b.block _ za),zAp h.b4 (b.block _ za),h.below.trans (b.mono za),h.less,qP2 c b.size⟩
theorem TI.put (h:TI B w0 s a m pre W) (b:Obj) (c:W.heap[l]? =yA o) (d:o.isCells=yI) (e:B<=l) (f:B<=W.heap.size):TI B w0 s a m pre (W.putObj l b):=
 ⟨zA6 h.b0 b c d,zA6 h.b1 b c d,zA6 h.b2 b c d,zA6 h.b3 b c d,zA6 h.b4 b c d,zAu b h.below c e f,h.less,by rw[putObj_size];exact h.size⟩
structure TX (B:Nat) (w0:yC) (q j:Nat) (W:yC):Prop where
 b2:Boxed W (B+2) 3 (qX qm (q:Int))
 b3:Boxed W (B+3) 3 (qX qm (j:Int))
 b4:Boxed W (B+4) 26 (qX qm 0)
 below:yM B w0 W
theorem TX.put {q j:Nat} (h:TX B w0 q j W) (b:Obj) (c:W.heap[l]? =yA o) (d:o.isCells=yI) (e:B<=l) (f:B<=W.heap.size):TX B w0 q j (W.putObj l b):=
 ⟨zA6 h.b2 b c d,zA6 h.b3 b c d,zA6 h.b4 b c d,zAu b h.below c e f⟩
def TJ (B X:Nat) (w0:yC) (l:List Nat) (n:Nat) (a:Option yF) (c:Nat) (s:ByteArray) (at_ m:Nat) (pre:List Nat) (k:Nat) (e:Array yD) (b:Act) (W:yC):Prop:=∃(g:Nat) (c' L:Nat) (d:Array yD) (f:Nat×Nat),
 e= #[.agg #[k,qX .u64 (first l k:Int),qZ (yA ⟨g,0,yB⟩) (cnt l k) c']]/\b={tmps:= #[qZ a n c,qY s,qX qm (at_:Int),yN,qc (yA ⟨B,0,yB⟩),qc (yA ⟨B+1,0,yB⟩),qc (yA ⟨B+2,0,yB⟩),qc (yA ⟨B+3,0,yB⟩),qc (yA ⟨B+4,0,yB⟩),qX qm 0,qc (yA ⟨L,0,yB⟩),yN,yN,qZ a n c,qX qm 0,qX qm 0,qh yI,yN,qZ a n c,.func (.func 161) #[] #[qc (yA ⟨X,0,yB⟩)],.agg #[k,qX .u64 (first l k:Int),qZ (yA ⟨g,0,yB⟩) (cnt l k) c'],yN,yN,yN,yN,yN,yN,yN,yN,yN,yN,yN,yN,yN,yN,yN,yN,yN,yN,yN,yN,yN,yN,yN,yN,yN,yN,yN,yN,yN,yN],defers:=[]}/\
 W.heap[L]? =yA (qp #[k,qX .u64 (first l k:Int),qZ (yA ⟨g,0,yB⟩) (cnt l k) c'] 199)/\TI B w0 s at_ m pre W/\yt W (yA ⟨g,0,yB⟩) ((whose l k).map ival)/\W.heap[g]? =yA (qp d 3 f)/\1<=k/\k<=20/\0<cnt l k
theorem zO2 (l:List Nat) (a:Option yF) (n c:Nat) (s:ByteArray) (at_ q:Nat) (w:yC) (hn:kN l=n) (hs:yt w a (l.map ival)) (ha:∀p,a=yA p->p.block<w.heap.size) (hr:Right l) (hq:q<n) (bw:s.size<=100000000) (bi:At s at_ (word l q)):
  yG yK 36 #[qZ a n c,qY s,at_] w fun e w'=>e=qx (qg #[q,qX qm ((at_+l.getD q 0:Nat):Int),qX qm 0])/\yM w w w':=by
 have bq:∀(fn:Fn) (first bh:Array yD) (w:yC),(Instr.makeFunc fn first bh).run yK w= .ok (.func fn first bh) w:=fun _ _ _ _=>rfl;obtain⟨B,hB⟩:=zB w.heap.size;have ax:=hr.most;rw[hn]at ax;obtain⟨m,hm⟩:=zB (l.getD q 0);have aa:=hr.top _ (zF6 (s:=q) za);have au:=hr.one _ (zF6 (s:=q) za);have I:=zJn l q za;have a8:=qFq l (l.getD q 0) au aa za;rw[hm]at aa au I a8;obtain⟨J,hJ⟩:=zB (at_+m);rw[hm,hJ];obtain⟨W1,a4⟩:=zB (w.alloc (qp #[qY s] 9));obtain⟨W2,O⟩:=zB (W1.alloc (qp #[at_] 3));obtain⟨W3,H⟩:=zB (W2.alloc (qp #[qX qm 0] 3));obtain⟨W4,G⟩:=zB (W3.alloc (qp #[qX qm 0] 3));obtain⟨W5,b⟩:=zB (W4.alloc (qp #[qX qm 0] 26));have z1:W1.heap.size=B+1:=by rw[<-a4,zA,hB]
 have z2:W2.heap.size=B+2:=by rw[<-O,zA,z1]
 have z3:W3.heap.size=B+3:=by rw[<-H,zA,z2]
 have z4:W4.heap.size=B+4:=by rw[<-G,zA,z3]
 have z5:W5.heap.size=B+5:=by rw[<-b,zA,z4]
 have k0:Boxed W1 B 9 (qY s):=by have:=Boxed.new w 9 (qY s);rwa[a4,hB]at this
 have k1:Boxed W2 (B+1) 3 (qX qm (at_:Int)):=by have:=Boxed.new W1 3 (qX qm (at_:Int));rwa[O,z1]at this
 have k2:Boxed W3 (B+2) 3 (qX qm 0):=by have:=Boxed.new W2 3 (qX qm 0);rwa[H,z2]at this
 have k3:Boxed W4 (B+3) 3 (qX qm 0):=by have:=Boxed.new W3 3 (qX qm 0);rwa[G,z3]at this
 have k4:Boxed W5 (B+4) 26 (qX qm 0):=by have:=Boxed.new W4 26 (qX qm 0);rwa[b,z4]at this
 have k3:=k3.alloc (qp #[qX qm 0] 26);rw[b]at k3;have k2:=(k2.alloc (qp #[qX qm 0] 3));rw[G]at k2;have k2:=(k2.alloc (qp #[qX qm 0] 26));rw[b]at k2;have k1:=(k1.alloc (qp #[qX qm 0] 3));rw[H]at k1;have k1:=(k1.alloc (qp #[qX qm 0] 3));rw[G]at k1;have k1:=(k1.alloc (qp #[qX qm 0] 26));rw[b]at k1;have k0:=(k0.alloc (qp #[at_] 3));rw[O]at k0;have k0:=(k0.alloc (qp #[qX qm 0] 3));rw[H]at k0;have k0:=(k0.alloc (qp #[qX qm 0] 3));rw[G]at k0;have k0:=(k0.alloc (qp #[qX qm 0] 26));rw[b]at k0;have a5:yM B w W5:=by
  have b1:yM B w W1:=by rw[<-a4,<-hB];exact(yR _ _).alloc (qPq _) _
  have b2:yM B w W2:=by rw[<-O];exact b1.alloc za _
  have b3:yM B w W3:=by rw[<-H];exact b2.alloc za _
  have b4:yM B w W4:=by rw[<-G];exact b3.alloc za _
  rw[<-b];exact b4.alloc za _
 obtain⟨K0,HC,HS,HN⟩:=yX (TI.mk (m:=m) (pre:=[]) k0 k1 k2 k3 k4 a5 (fun k z=>by cases z) za) (zCk l a n c W5 hn (hs.below (by rw[hB];exact a5)) hr) (hs.below (by rw[hB];exact a5)) hn;rw[hB]at ha;obtain⟨HA,HR,HM,bg,an,HJ,a6,HQ⟩:=yh ha hr hm I a8 hJ bi hq;clear k0 k1 k2 k3 k4 a5 hs hn ha hr hm I a8 hJ bi hq;rw[hB];refine(qQi (n:=3)).1 ?_;refine callsIn_of_wp_marks func36 rfl trivial ?_ rfl;simp only[ntmps36,qQ2,qP4,qQy,Nat.reduceAdd,Nat.reduceSub,qR,qRa,qRb,qRc,qQm,qQs];gi_wp2_with fail;clear a4 O H G b z1 z2 z3 z4 hB;refine⟨trivial,(qQi.2 HC.out).mono ?_⟩;rintro e w2 ⟨rfl,Z⟩;obtain⟨X,hX⟩:=zB w2.heap.size;have bp:B+5<=X:=by have:=Z.size;omega
 obtain⟨K2,S2⟩:=yU (K0.out.keep Z) (HS.out.below Z);obtain⟨w3,P⟩:=zB (w2.alloc (qp #[qZ a n c] 23));have bx:w3.heap.size=X+1:=by rw[<-P,zA,hX]
 have X3:=yT (Boxed w3 X 23 (qZ a n c)) (by
  have:=Boxed.new w2 23 (qZ a n c);rw[P,hX]at this;exact this)
 have a9:yM w2 w2 w3:=by rw[<-P];exact(yR _ _).alloc (qPq _) _
 obtain⟨K3,S3,HL⟩:=yV (K2.out.keep a9) (S2.out.below a9) (zMg a n c w2);rw[hX,P]at HL;clear Z a9 K0 K2 S2 HC HS z5;gi_wp2_with fail;clear hX P;refine⟨trivial,(qQi.2 HL.out).mono ?_⟩;rintro e w6 ⟨rfl,rfl⟩;clear HL;gi_wp2;refine zL9 (gf:=161) (lb:= #[qc (yA ⟨X,0,yB⟩)]) rfl (enters_of func161 zf rfl)
  (LE l) (fun A B=>yM A A B) (fun _ _=>False) (lv l 1 20)
  (fun A D h=>⟨h.size,fun k o z _=>(h.block k (zAd z)).trans z⟩)
  (fun _ _ _ h=>by obtain⟨a,c,rfl,_⟩:=h;rfl)
  (fun x W k o o' vs z ho h=>by
   obtain⟨a,c,h1,h2,⟨g,cs,f,h3,h4⟩,h5⟩:=h;exact⟨a,c,h1,zG9 h2 o' z ho,⟨g,cs,f,h3,zBl h4 o' z ho⟩,h5⟩)
  (fun W hW=>zMf X a n c l HN.out HR.out _ (fun h=>h) (fun p hp h=>h) W (fun k z h=>h) (zAp X3.out (hW.block _ za)) (S3.out.below hW))
  (TI B w s at_ m)
  (fun c _ W=>c= .ret/\TX B w q J W)
  (fun pre W k o o' z ho b0 hi=>hi.put o' ho b0 za (by have:=hi.size;omega))
  (fun c pre W k o o' z ho b0 hi=>⟨hi.1,hi.2.put o' ho b0 za (by have:=zAd ho;omega)⟩)
  (fun pre A D hi ho=>hi.keep ho)
  (fun o o'=>(K3.out.keep ((yR _ _).alloc (qPq _) o)).keep ((yR _ _).alloc (qPq _) o'))
  (TJ B X w l n a c s at_ m)
  (fun pre x vs ac W k o o' z ho b0 h=>by
   obtain⟨g,c',L,cs,f,h1,h2,h3,h4,h5,h6,h7⟩:=h;exact⟨g,c',L,cs,f,h1,h2,zBl h3 o' ho b0,h4.put o' ho b0 za (by have:=h4.size;omega),zG9 h5 o' ho b0,zBl h6 o' ho b0,h7⟩)
  ?assign ?body ?done ?stop
 case assign=>
  rintro k pre x W vs K az hi ⟨a',c',rfl,N,⟨g,cs,f,rfl,hg⟩,h1,h2,h3⟩ hK;obtain⟨F,hF⟩:=zB (first l x);obtain⟨mm,hm⟩:=zB (cnt l x);obtain⟨Wc,ai⟩:=zB (W.alloc (qp #[x,qX .u64 (F:Int),qZ (yA ⟨g,0,yB⟩) mm c'] 199));have u:yM W W Wc:=by rw[<-ai];exact(yR _ _).alloc (qPq _) _
  have hX:Wc.heap[W.heap.size]? =yA (qp #[x,qX .u64 (F:Int),qZ (yA ⟨g,0,yB⟩) mm c'] 199):=by
   rw[<-ai];show(W.heap.push _)[W.heap.size]? =_;simp
  have ar:=fun ac=>hK ac Wc ⟨u.size,fun k o z _=>(u.block k (zAd z)).trans z⟩ (Sc.below u);have af:=N.below u;have ah:=hi.keep u;have av:=(u.block g (zAd hg)).trans hg;have ag:=zH (fun ac h=>ar ac ⟨g,c',W.heap.size,cs,f,rfl,h,by rw[hF,hm];exact hX,ah,af,av,h1,h2,h3⟩);rw[hF,hm]at ag⊢;clear hK ar hi N hg hX af ah av u;gi_wp2;exact ag.out _ rfl
 case body=>
  rintro k pre x W vs ac az ⟨g,c',L,cs,f,rfl,rfl,hL,hi,N,hg,h1,h2,h3⟩ ae;have ak:=qC9 ae an.out hi.less;obtain⟨F,hF⟩:=zB (first l x);obtain⟨mm,ab⟩:=zB (cnt l x);have ay:=HR.out.zEs x h2;have br:2^x<=2^20:=qR9 za za;have aj:=a6.out.1;rw[zCu,HM.out]at aj;have aq:=zEy (take s at_ x);rw[take_length]at aq;have ap:take s at_ x=(word l q).take x:=by
   have:=a6.out.2;rw[zCu,HM.out]at this;rw[<-this];unfold take;rw[<-qTy,List.take_range,qTj ak]
  have M:=zPh HR.out q (by rw[HN.out];exact HQ.out) x (by rw[HM.out];exact ak);rw[<-ap]at M;have R:=fun(h:x<m)=>zSc HR.out q (by rw[HN.out];exact HQ.out) x (by rw[HM.out];exact h);have hG:=zB7 s at_ x za za za W;obtain⟨v,hv⟩:=zB (val (take s at_ x));rw[hv]at M aq hG;rw[<-M]at R;rw[hF,ab]at hL ay R⊢;have hne:∀j:Nat,(∃(t:yE) (v:yD),Boxed W j t v)->¬L=j/\¬j=L:=by
   rintro j ⟨t,v',h⟩;have:¬L=j:=by rintro rfl;rw[show W.heap[L]? =_ from h]at hL;injection hL with hL;injection hL with hL _ _;have:=qPs Array.size hL;simp at this
   exact⟨this,fun h=>this h.symm⟩
  obtain⟨b8,b6,b9⟩:=yV (hne (B+2) ⟨_,_,hi.b2⟩) (hne (B+3) ⟨_,_,hi.b3⟩) (hne (B+4) ⟨_,_,hi.b4⟩);clear hne;obtain⟨HG,ba,bd,HI,bf,bn,HF,b7⟩:=yh hG R M hi N hg hF ab;obtain⟨y0,y1,y2,_⟩:=cells3 hL;have u0:=hi.b0.cell;have u1:=hi.b1.cell;have u2:=hi.b2.cell;have u3:=hi.b3.cell;have u4:=hi.b4.cell;have f2:=hi.b2.frozen;have f3:=hi.b3.frozen;have f4:=hi.b4.frozen;have HP:=zH ae;clear hL hi N hg hF ab hv R M hG ap aj;gi_wp2_with fail;refine⟨trivial,(CallsIn.inRound k (qQi.2 HG.out)).mono ?_⟩;rintro e w7 ⟨rfl,rfl⟩;clear HG;have j0:IntKind.u64.wrap (mm:Int)=(mm:Int):=qSh _ ⟨za,za⟩;by_cases b5:x<m
  .have bc:=ba.out b5;have j1:IntKind.u64.wrap ((v:Int)-(F:Int))=(v:Int)-(F:Int):=qSh _ ⟨za,za⟩;have j2:decide ((v:Int)-(F:Int)<(mm:Int))=yI:=qP1 za;clear bc;gi_wp2;refine⟨⟨qPq _,fun _ _ h _=>h⟩,Sc.refl _ _,?_⟩;have hi:=HI.out;exact⟨hi.b0,hi.b1,hi.b2,hi.b3,hi.b4,hi.below,fun k z=>by
    rcases qSi.1 z with h|h
    .exact hi.less k h
    .rw[qRe]at h;omega,hi.size⟩
  .obtain rfl:x=m:=za
   obtain⟨r,hr⟩:=zB (rank l q);have I:=bg.out;have a7:v=F+r:=by
    have:=bd.out;rw[HM.out,Nat.sub_self,Nat.pow_zero,Nat.div_one]at this;rw[this];unfold zB9;rw[HM.out,HF.out,hr]
   rw[hr,b7.out]at I;have am:(whose l x)[r]? =yA q:=by
    have:=zDx l q (by rw[HN.out];exact HQ.out);rwa[HM.out,hr]at this
   obtain⟨g',off,ad,e0⟩:=bf.out r (ival q) (by rw[qP3,am];rfl);injection ad with ad
   injection ad with e1 e2 _
   subst e1 e2;rw[qQd]at e0;have j1:IntKind.u64.wrap ((v:Int)-(F:Int))=(r:Int):=by rw[a7];rw[show((F+r:Nat):Int)-(F:Int)=(r:Int)by omega];exact qSh _ ⟨za,za⟩
   have j3:(v:Int)-(F:Int)=(r:Int):=za
   have bu:(r:Int)<(mm:Int):=za
   have bk:(x:Int)<=20:=za
   have bj:(at_:Int)<=900000000:=by have:=a6.out.1;omega
   have ao:=yT ((at_:Int)+(x:Int)=(J:Int)) (by have:=HJ.out;omega);have bo:=zH a7;clear hr am a7;gi_wp2;obtain⟨n1,_⟩:=b8.out;obtain⟨n2,_⟩:=b6.out;obtain⟨n3,_⟩:=b9.out;refine Kit.zRj (S:=fun w'=>w'.cell? ⟨L,2,yB⟩=yA (qZ (yA ⟨g,0,yB⟩) mm c')/\w'.cell? ⟨L,0,yB⟩=yA (qX qm (x:Int))/\w'.cell? ⟨B+1,0,yB⟩=yA (qX qm (at_:Int))) zf zf ⟨y2,y0,u1⟩ (fun hHeld=> ?_);refine qTl (i:=0) (v:=qc (yA ⟨L,2,yB⟩)) rfl zf zf zf (fun _ _ _ h=>h) (Or.inl ⟨zh,fun w hSw=>by(obtain⟨w0,w1,w2⟩:=hSw;go_simp)⟩) hHeld ?_
   try simp only[qS0,qSt,qTb,Act.put,qPx,qPw,qPy]
   refine qTl (i:=1) (v:=qZ (yA ⟨g,0,yB⟩) mm c') rfl zf zf zf (fun _ _ _ h=>h) (Or.inl ⟨zh,fun w hSw=>by(obtain⟨w0,w1,w2⟩:=hSw;go_simp)⟩) hHeld ?_
   try simp only[qS0,qSt,qTb,Act.put,qPx,qPw,qPy]
   refine qTl (i:=2) (v:=qX .u64 (r:Int)) rfl zf zf zf (fun _ _ _ h=>h) (Or.inl ⟨zh,fun w hSw=>by(obtain⟨w0,w1,w2⟩:=hSw;go_simp)⟩) hHeld ?_
   try simp only[qS0,qSt,qTb,Act.put,qPx,qPw,qPy]
   refine qTl (i:=3) (v:=qc (yA ⟨g,r,yB⟩)) rfl zf zf zf (fun _ _ _ h=>h) (Or.inl ⟨zh,fun w hSw=>by(obtain⟨w0,w1,w2⟩:=hSw;go_simp)⟩) hHeld ?_
   try simp only[qS0,qSt,qTb,Act.put,qPx,qPw,qPy]
   refine qTl (i:=5) (v:=qX qm (at_:Int)) rfl zf zf zf (fun _ _ _ h=>h) (Or.inl ⟨zh,fun w hSw=>by(obtain⟨w0,w1,w2⟩:=hSw;go_simp)⟩) hHeld ?_
   try simp only[qS0,qSt,qTb,Act.put,qPx,qPw,qPy]
   refine qTl (i:=6) (v:=qc (yA ⟨L,0,yB⟩)) rfl zf zf zf (fun _ _ _ h=>h) (Or.inl ⟨zh,fun w hSw=>by(obtain⟨w0,w1,w2⟩:=hSw;go_simp)⟩) hHeld ?_
   try simp only[qS0,qSt,qTb,Act.put,qPx,qPw,qPy]
   refine qTl (i:=7) (v:=qX qm (x:Int)) rfl zf zf zf (fun _ _ _ h=>h) (Or.inl ⟨zh,fun w hSw=>by(obtain⟨w0,w1,w2⟩:=hSw;go_simp)⟩) hHeld ?_
   try simp only[qS0,qSt,qTb,Act.put,qPx,qPw,qPy]
   refine qTl (i:=8) (v:=qX qm (J:Int)) rfl zf zf zf (fun _ _ _ h=>h) (Or.inl ⟨zh,fun w hSw=>by(obtain⟨w0,w1,w2⟩:=hSw;go_simp;rw[ao.out];have:=ao.out;exact qQa _ ⟨za,za⟩)⟩) hHeld ?_
   try simp only[qS0,qSt,qTb,Act.put,qPx,qPw,qPy]
   have hi:=HI.out;have ll:(loadVar 3 ⟨g,r,yB⟩).run yK W.drew= .ok (qX qm (q:Int)) W.drew:=by
    have bb:W.drew.cell? ⟨g,r,yB⟩=yA (qX qm (q:Int)):=e0;simp[loadVar,go_sem,bb]
   refine Kit.zX8 4 (ty:=3) (x:= .tmp 45) (d:=yA 46) (g:=⟨g,r,yB⟩) (v:=qX qm (q:Int)) zf zf zf zf ll hHeld ?_;have a0:∀(V:yC) (j:Nat) (t:yE) (v0:yD) (k:Int),(prog.info? t).map (·.size)=yA 1->Boxed V j t v0->(storeVar t ⟨j,0,yB⟩ (qX qm k)).run yK V= .ok () (V.setCell ⟨j,0,yB⟩ (qX qm k)):=by
    intro V j t v0 k ht hb;have c:=hb.cell;have f:=hb.frozen;cases hq:prog.info? t with
    |none=>simp[hq]at ht
    |some i=>
     have h1:i.size=1:=by simpa [hq]using ht
     simp[storeVar,sizeOf,typeInfo,hq,h1,go_sem,c,f]
   have q2:Boxed W.drew (B+2) 3 (qX qm 0):=hi.b2;have q3:Boxed (W.drew.setCell ⟨B+2,0,yB⟩ (qX qm (q:Int))) (B+3) 3 (qX qm 0):=(zAa za).trans hi.b3;have q4:Boxed ((W.drew.setCell ⟨B+2,0,yB⟩ (qX qm (q:Int))).setCell ⟨B+3,0,yB⟩ (qX qm (J:Int))) (B+4) 26 (qX qm 0):=(zAa za).trans ((zAa za).trans hi.b4);have keep:∀(V:yC) (j:Nat) (v:yD),¬L=j->¬B+1=j->(V.cell? ⟨L,2,yB⟩=yA (qZ (yA ⟨g,0,yB⟩) mm c')/\V.cell? ⟨L,0,yB⟩=yA (qX qm (x:Int))/\V.cell? ⟨B+1,0,yB⟩=yA (qX qm (at_:Int)))->((V.setCell ⟨j,0,yB⟩ v).cell? ⟨L,2,yB⟩=yA (qZ (yA ⟨g,0,yB⟩) mm c')/\(V.setCell ⟨j,0,yB⟩ v).cell? ⟨L,0,yB⟩=yA (qX qm (x:Int))/\(V.setCell ⟨j,0,yB⟩ v).cell? ⟨B+1,0,yB⟩=yA (qX qm (at_:Int))):=by
    rintro V j v h1 h2 ⟨a1,a2,a3⟩;exact⟨(qRg (zAa h1)).trans a1,(qRg (zAa h1)).trans a2,(qRg (zAa h2)).trans a3⟩
   refine Kit.zH9 9 (ty:=3) (x:= .tmp 6) (y:= .tmp 46) (g:=⟨B+2,0,yB⟩) (v:=qX qm (q:Int)) zf zf zf zf zf (a0 _ _ _ _ _ zf q2) (keep _ _ _ n1 za hHeld) (fun hHeld=> ?_);refine Kit.zH9 10 (ty:=3) (x:= .tmp 7) (y:= .tmp 50) (g:=⟨B+3,0,yB⟩) (v:=qX qm (J:Int)) zf zf zf zf zf (a0 _ _ _ _ _ zf q3) (keep _ _ _ n2 za hHeld) (fun hHeld=> ?_);refine Kit.zH9 11 (ty:=26) (x:= .tmp 8) (y:= .const (qX qm 0)) (g:=⟨B+4,0,yB⟩) (v:=qX qm 0) zf zf zf zf zf (a0 _ _ _ _ _ zf q4) (keep _ _ _ n3 za hHeld) (fun hHeld=> ?_);refine wpAnyH_done zf ?_ _;obtain⟨F',Y⟩:=zB (((W.drew.setCell ⟨B+2,0,yB⟩ (qX qm (q:Int))).setCell ⟨B+3,0,yB⟩ (qX qm (J:Int))).setCell ⟨B+4,0,yB⟩ (qX qm 0));have TF:=yT (TX B w q J F') (by
    rw[<-Y];exact⟨(zAa za).trans ((zAa za).trans (Boxed.set (qX qm (q:Int)) q2)),(zAa za).trans (Boxed.set (qX qm (J:Int)) q3),Boxed.set (qX qm 0) q4,
     ((hi.below.drew.setCell (p:=⟨B+2,0,yB⟩) zm _).setCell (p:=⟨B+3,0,yB⟩) zm _).setCell (p:=⟨B+4,0,yB⟩) zm _⟩)
   have KF:=yT (KeepsOthers W F') (by
    rw[<-Y];exact(((KeepsOthers.drew W).trans (KeepsOthers.setCell _ _ _)).trans (KeepsOthers.setCell _ _ _)).trans (KeepsOthers.setCell _ _ _))
   rw[Y];clear Y q2 q3 q4 a0 keep hHeld ll hi e0 y0 y1 y2 u0 u1 u2 u3 u4 f2 f3 f4;rw[show ∀(Q:Exit->Act->yC->Prop) (a:Act) (w:yC),Kit.zDy Q .normal a w=Q .normal a w from fun _ _ _=>rfl];gi_wp2;exact⟨KF.out,rfl,TF.out⟩
 case done=>
  rintro D W hD hi hK;exact absurd (hi.less m an.out) za
 case stop=>
  rintro D c pre W hD _ ⟨rfl,h⟩ hK;have yo:=h.b2.cell;have yo:=h.b3.cell;have yo:=h.b4.cell;have HI:=zH h;clear h;gi_wp2;have h2:=HI.out.put (qw yB) hK rfl za (by have:=zAd hK;omega);refine⟨zm,qz ⟨_,_,rfl,run_takeDeferred hK,?_⟩⟩;have z2:=h2.b2.cell;have z3:=h2.b3.cell;have z4:=h2.b4.cell;exact⟨qg #[q,J,qX qm 0],by simp[results,f36,go_sem,z2,z3,z4],⟨rfl,h2.below⟩⟩
end Hf
namespace Bk
open Bt Zr Sq St
abbrev TRd:yE:=409
structure Rx where
 a:ByteArray
 i:Nat
 t:Option yF
 tn:Nat
 tc:Nat
 c:Option yF
 cn:Nat
 cc:Nat
 codes:Nat
def RD (w:yC) (R:Nat) (x:Rx):Prop:=w.heap[R]? =yA (qp #[qY x.a,qX qm (x.i:Int),qZ x.t x.tn x.tc,qZ x.c x.cn x.cc,qX qm (x.codes:Int)] TRd)
section
variable {w w':yC} {R:Nat} {x:Rx}
theorem RD.lt (h:RD w R x):R<w.heap.size:=zAd h
theorem RD.keep (h:RD w R x) (e:w'.heap[R]? =w.heap[R]?):RD w' R x:=e.trans h
theorem RD.below (h:RD w R x) (a:yM w w w'):RD w' R x:=h.keep (a.block R h.lt)
theorem RD.c0 (h:RD w R x):w.cell? ⟨R,0,yB⟩=yA (qY x.a):=by unfold RD at h;simp[yQ,h]
theorem RD.c1 (h:RD w R x):w.cell? ⟨R,1,yB⟩=yA (qX qm (x.i:Int)):=by unfold RD at h;simp[yQ,h]
theorem RD.c2 (h:RD w R x):w.cell? ⟨R,2,yB⟩=yA (qZ x.t x.tn x.tc):=by unfold RD at h;simp[yQ,h]
theorem RD.c3 (h:RD w R x):w.cell? ⟨R,3,yB⟩=yA (qZ x.c x.cn x.cc):=by unfold RD at h;simp[yQ,h]
theorem RD.c4 (h:RD w R x):w.cell? ⟨R,4,yB⟩=yA (qX qm (x.codes:Int)):=by unfold RD at h;simp[yQ,h]
theorem RD.fr (h:RD w R x) (i:Nat):w.frozen? ⟨R,i,yB⟩=yI:=by unfold RD at h;simp[World.frozen?,h]
theorem RD.l0 (h:RD w R x):(loadVar 9 ⟨R,0,yB⟩).run yK w= .ok (qY x.a) w:=yw h.c0 zf zf
theorem RD.l1 (h:RD w R x):(loadVar 3 ⟨R,1,yB⟩).run yK w= .ok (qX qm (x.i:Int)) w:=yw h.c1 zf zf
theorem RD.l2 (h:RD w R x):(loadVar 60 ⟨R,2,yB⟩).run yK w= .ok (qZ x.t x.tn x.tc) w:=yw h.c2 zf zf
theorem RD.l3 (h:RD w R x):(loadVar 23 ⟨R,3,yB⟩).run yK w= .ok (qZ x.c x.cn x.cc) w:=yw h.c3 zf zf
theorem RD.l4 (h:RD w R x):(loadVar 3 ⟨R,4,yB⟩).run yK w= .ok (qX qm (x.codes:Int)) w:=yw h.c4 zf zf
theorem RD.s1 (h:RD w R x) (j:Nat) {V:Int} (a:V=(j:Int)):RD (w.setCell ⟨R,1,yB⟩ (qX qm V)) R {x with i:=j}:=by
 subst a;unfold RD at*;simp[World.setCell,qQt,h]
theorem RD.s2 (h:RD w R x) (t:Option yF) (n c:Nat):RD (w.setCell ⟨R,2,yB⟩ (qZ t n c)) R {x with t:=t,tn:=n,tc:=c}:=by
 unfold RD at*;simp[World.setCell,qQt,h]
theorem RD.s3 (h:RD w R x) (t:Option yF) (n c:Nat):RD (w.setCell ⟨R,3,yB⟩ (qZ t n c)) R {x with c:=t,cn:=n,cc:=c}:=by
 unfold RD at*;simp[World.setCell,qQt,h]
theorem RD.s4 (h:RD w R x) (j:Nat) {V:Int} (a:V=(j:Int)):RD (w.setCell ⟨R,4,yB⟩ (qX qm V)) R {x with codes:=j}:=by
 subst a;unfold RD at*;simp[World.setCell,qQt,h]
end
theorem zPn (w:yC):yG yK 320 #[qX qm 0] w fun e w'=>e=qx (qg #[])/\w'=w:=by
 go_enter func320,ntmps320;go_wp2;go_end0;exact⟨rfl,rfl⟩
theorem zJv (e:Int) (w:yC):yG yK 286 #[qh yH,qX qm e] w fun e w'=>e=qx (qg #[])/\w'=w:=by
 go_enter func286,ntmps286;go_wp2;go_end0;exact⟨rfl,rfl⟩
theorem zIc (R j:Nat) (x:Rx) (w:yC) (h:RD w R x):
  yG yK 316 #[qc (yA ⟨R,0,yB⟩),j,qX qm 0] w fun e w'=>e=qx (qg #[])/\RD w' R {x with i:=j}/\Upd w w' R:=by
 have a:=zH (fun W=>zPn W);have c:=h.c1;have b:=h.fr 1;have H:=zH (yS (h.s1 j rfl) (Upd.set (w:=w) (K:=R) (i:=1) (v:=qX qm (j:Int))));clear h;go_enter func316,ntmps316;go_wp2_with fail;(with_reducible refine(a.out _).mono ?_);rintro e w2 ⟨rfl,rfl⟩;go_wp2;go_end0;exact⟨rfl,H.out.1,H.out.2⟩
theorem zFx (R n v:Nat) (x:Rx) (N:Int) (j:N=(n:Int)) (w:yC) (h:RD w R x) (k:n<=62) (hi:x.i+n<=8*x.a.size) (l:x.a.size<=100000000) (hv:val (take x.a x.i n)=v):
  yG yK 315 #[qc (yA ⟨R,0,yB⟩),qX qm N] w fun e w'=>e=qx (qX qm (v:Int))/\RD w' R {x with i:=x.i+n}/\Upd w w' R:=by
 subst j;have r:v<4611686018427387904:=by
  have g:=zEy (take x.a x.i n);rw[take_length]at g;have t:(2:Nat)^n<=2^62:=qR9 za k;omega
 have c:=zH (fun W=>(zB7 x.a x.i n za hi za W).mono (fun _ _ h=>(⟨h.1,h.2.symm⟩:_/\_)));rw[hv]at c;have f:=zH (fun W=>zPn W);have o:=h.c0;have p:=h.c1;have s:=h.fr 1;have H:=zH (fun(q:Nat)=>yS (RD.s1 (w:=w.drewN q) (show RD (w.drewN q) R x from h) (x.i+n) (V:=(x.i:Int)+(n:Int)) za) ((show Upd w (w.drewN q) R from⟨fun _ _ _=>rfl,⟨rfl,rfl,rfl,qPq _,fun _ _=>rfl⟩⟩).trans (Upd.set (i:=1) (v:=qX qm ((x.i:Int)+(n:Int))))));have u:IntKind.i64.wrap (v:Int)=(v:Int):=qQa _ ⟨za,za⟩;have m:IntKind.i64.wrap ((x.i:Int)+(n:Int))=(x.i:Int)+(n:Int):=qQa _ ⟨za,za⟩;obtain⟨i,b⟩:=zB x.i;obtain⟨a,d⟩:=zB x.a;rw[b]at p c H m hi;rw[d]at o c hi l;rw[b];clear h hv b d;go_enter func315,ntmps315;go_wp2;go_quiet ((go_at_call 32;exact Calls.quiet_of_same (c.out _)));go_wp2_with fail;(with_reducible refine(f.out _).mono ?_);rintro e w2 ⟨rfl,rfl⟩;go_wp2;go_ret;exact⟨rfl,(H.out nq).1,(H.out nq).2⟩
end Bk
namespace Bk
open Hf Bt Zr Front Wg Ch Sl Sq St Tn
variable {w w':yC} {R D n c i:Nat} {e:yE} {a:Option yF} {xs:List yD} {s:ByteArray} {l m:List Bool}
theorem zEl (h:yu w D e a n c xs) (d:Upd w w' R) (g:R<D):yu w' D e a n c xs:=
 zJs h (fun k f b=>d.old k b za)
theorem zXz {p:Option yF} {k:Nat} {j:List yD} {b:List (List Nat)} (h:Gr w D p k c j b) (f:Upd w w' R) (d:R<D):Gr w' D p k c j b:=
 ⟨zEl h.own f d,h.len,fun i g t=>by
  obtain⟨G,c',o,q,r⟩:=h.each i g t;exact⟨G,c',o,q,zEl r f d⟩⟩
theorem At.left (h:At s i (l++m)):At s i l:=(At.app.1 h).1
theorem At.right {j:Nat} (h:At s i (l++m)) (b:i+kN l=j):At s j m:=b▸(At.app.1 h).2
theorem At.bound (h:At s i l):i+kN l<=8*s.size:=h.1
theorem qFe (h:yu w D e a n c xs) (x:∀b,b<w.heap.size->(∀q f,w.heap[b]?≠yA (qp q TL_ f))->w'.heap[b]? =w.heap[b]?) (u:e≠TL_):yu w' D e a n c xs:=by
 obtain⟨t,o⟩:=h;refine⟨t,?_⟩;rcases o with o|⟨g,j,d,hv,i,p,r⟩
 .exact qz o
 .exact qy ⟨g,j,d,hv,i,(x g (zAd p) (fun q f k=>by rw[p]at k;injection k with k;injection k with _ k _;exact u k)).trans p,r⟩
theorem Upd.bel {d:yC} (h:Upd w d R) (b:yM D d w') (j:w.heap.size=D) (o:R<D):Upd w w' R:=
 ⟨fun k f g=>(b.block k za).trans (h.old k f g),h.below.trans (b.mono za)⟩
theorem zXu (R y N i:Nat) (a:ByteArray) (c0:Option yF) (b5 b4:Nat) (ch t0 t1:List Nat) (w:yC) (h:RD w R ⟨a,i,yB,0,0,c0,b5,b4,N⟩) (hs:a.size<=100000000) (b6:kN ch=y) (bd:0<y) (bf:y<=10000) (b7:∀x∈ch,x<=1) (h2:2<=N) (bc:N<=258)
  (ba:Right t0) (bb:Right t1) (b8:kN t0=N) (b9:kN t1=N) (ha:At a i (num 2 3++(num y 15++(zAz yI ch++(delta t0++delta t1))))):
  yG yK 317 #[qc (yA ⟨R,0,yB⟩)] w fun e w'=>∃tp tc vs z cc,e=qx (qg #[])/\RD w' R ⟨a,i+3+15+kN (zAz yI ch)+kN (delta t0)+kN (delta t1),tp,2,tc,z,y,cc,N⟩/\
   Gr w' w.heap.size tp 2 tc vs [t0,t1]/\yu w' w.heap.size 3 z y cc (ch.map ival)/\Upd w w' R:=by
 have a1:=At.left ha;have a8:=At.right ha (j:=i+3) (by rw[zAc]);have a2:=At.left a8;have S:=At.right a8 (j:=i+3+15) (by rw[zAc]);have a3:=At.left S;have M:=At.right S rfl;have a4:=At.left M;have a5:=At.right M rfl;have b1:=At.bound a1;have b2:=At.bound a2;have b3:=At.bound a3;rw[zAc]at b1 b2;have ak:=At.bound a5;have am:=At.bound a4;obtain⟨ai,HM,HO,au,A3,A4,A5,ap,ay⟩:=yj (zFx R 3 2 ⟨a,i,yB,0,0,c0,b5,b4,N⟩ 3 rfl w h za b1 hs (At.val a1 za)) (fun(e:Int) (w:yC)=>zJv e w) (fun(w:yC)=>zPn w) (At.val a2 za) a3 a4 a5 b7 b6;obtain⟨R0,R1,L0,L1⟩:=yX ba bb b8 b9;obtain⟨E,hE⟩:=zB w.heap.size;have d:R<E:=by rw[<-hE];exact h.lt
 have HE:=zH hE;have bi:8*a.size<=800000000:=za
 rw[hE];clear ha a1 a8 a2 S a3 M a4 a5 h b7 b6 ba bb b8 b9 hE;go_enter func317,ntmps317;go_wp2_with fail;(with_reducible refine ai.out.mono ?_);rintro e w1 ⟨rfl,hk,hu⟩;have K1:=yT (RD w1 R ⟨a,i+3,yB,0,0,c0,b5,b4,N⟩) hk;have U1:=zH hu;rw[show((2:Nat):Int)=(2:Int)from rfl];clear hk hu ai;go_wp2_with fail;(with_reducible refine(HM.out _ _).mono ?_);rintro e w2 ⟨rfl,rfl⟩;have ae:=zH (zFx R 15 y ⟨a,i+3,yB,0,0,c0,b5,b4,N⟩ 15 rfl w2 K1.out za b2 hs au.out);go_wp2_with fail;(with_reducible refine ae.out.mono ?_);rintro e w3 ⟨rfl,hk,hu⟩;have K3:=yT (RD w3 R ⟨a,i+3+15,yB,0,0,c0,b5,b4,N⟩) hk;have U3:=zH (U1.out.trans hu);have j1:decide ((0:Int)<(y:Int))=yH:=qQ za;have ao:decide (0<y)=yH:=qQ bd;clear hk hu ae K1 U1;go_wp2_with fail;(with_reducible refine(HM.out _ _).mono ?_);rintro e w4 ⟨rfl,rfl⟩;have b:=yT (RD w4.drew R ⟨a,i+3+15,yB,0,0,c0,b5,b4,N⟩) K3.out;obtain⟨UD,aj⟩:=yU (U3.out.trans (Upd.drew w4 R)) (zOa a (i+3+15) ch y w4.drew ay.out bf hs ap.out A3.out);clear K3 U3 j1 ao;go_wp2;refine zS [] (fun _=>True) [0,1,2,4,8,0,32,64,128,256,0,0,3600,4096,8192,8192,8192,32767,196607,524287] 20<|zp [0,1,2,3,4,5,6,7,8,9,10,11]<|zk 29 (zP R 0)<|zk 30 (zP R 0)<|zk 31 (zP R 0)<|zk 32 (zP R 0)<|zt 33 (qY a) (zl 9 32 (b.out.l0))<|zk 34 (zP R 0)<|zk 35 (zP R 0)<|zk 36 (zP R 0)<|zk 37 (zP R 1)<|zt 38 (qX qm ((i+3+15:Nat):Int)) (zl 3 37 (b.out.l1))<|zk 39 (zI y)<|zk 40 (qX qm 2)<|zn<|zx 12 41 34 #[qY a,qX qm ((i+3+15:Nat):Int),qX qm (y:Int),qX qm 2] aj.out<| ?_
 rintro e w5 ⟨z,cc,rfl,ab,a6⟩;refine⟨_,rfl,qy (qy trivial),?_⟩;refine zp [13,14,15,16,17,18,19]<|zk 28 (qg #[qZ z y cc,qX qm ((i+3+15+kN (zAz yI ch):Nat):Int),qX qm 0])<|zk 42 (qZ z y cc)<|zk 43 (qX qm ((i+3+15+kN (zAz yI ch):Nat):Int))<|zk 44 (qX qm 0)<|zk 4 (qZ z y cc)<|zk 5 (qX qm ((i+3+15+kN (zAz yI ch):Nat):Int))<|zk 6 (qX qm 0)<|zn<|zE<| ?_
 simp only[zP,zI,Act.put,qPx,qPw,qPy];have ax:=b.out.lt;obtain⟨K5,U5,O5⟩:=yV (b.out.below a6) (UD.out.trans (Upd.of_below a6 (qP7 ax))) (ab.base (B':=E) (by rw[<-HE.out];exact UD.out.size));clear a6 ab aj b UD;obtain⟨j,hj⟩:=zB (i+3+15+kN (zAz yI ch));rw[hj]at A4 A5 am ak;rw[hj];have HJ:=zH hj;clear hj;have m:=zH (zIc R j _ w5 K5.out);go_wp2_with fail;(with_reducible refine m.out.mono ?_);rintro e w6 ⟨rfl,hk,hu⟩;have u:=hk;obtain⟨O6,U6⟩:=yU (zEl O5.out hu d) (U5.out.trans hu);have x3:=u.c3;have f3:=u.fr 3;simp only at x3;have K7:=yT (RD (w6.setCell ⟨R,3,yB⟩ (qZ z y cc)) R ⟨a,j,yB,0,0,z,y,cc,N⟩) (u.s3 z y cc);obtain⟨O7,U7⟩:=yU (zCz (r:=R) (i:=3) O6.out d (qZ z y cc)) (U6.out.trans (Upd.set (i:=3) (v:=qZ z y cc)));clear hk hu u K5 U5 O5 m O6 U6;go_wp2;go_loopw [56] (fun iv wr=>∃(k tc:Nat) (tp:Option yF) (vs:List yD),k<=2/\iv=qX qm k/\yL (RD wr R ⟨a,j+kN (([t0,t1].take k).flatMap delta),tp,k,tc,z,y,cc,N⟩)/\yL (Gr wr E tp k tc vs ([t0,t1].take k))/\yL (yu wr E 3 z y cc (ch.map ival))/\yL (Upd w wr R)) (fun iv _=>2-(intOf iv).toNat)
 case atStart=>exact⟨0,0,yB,[],za,rfl,K7,zH (Gr.start _ _),O7,U7⟩
 case round=>
  clear K7 O7 U7;obtain⟨k,tc,tp,vs,bg,rfl,I,a7,s,p⟩:=hrel;by_cases bh:k<2
  .obtain⟨tk,Z,t,O,Y⟩:∃tk,At a (j+kN (([t0,t1].take k).flatMap delta)) (delta tk)/\Right tk/\kN tk=N/\[t0,t1].take (k+1)=[t0,t1].take k++[tk]:=by
    obtain rfl|rfl:k=0\/k=1:=za
    .exact⟨t0,A4.out,R0.out,L0.out,rfl⟩
    .exact⟨t1,by simpa using A5.out,R1.out,L1.out,rfl⟩
   obtain⟨q,hq⟩:=zB (j+kN (([t0,t1].take k).flatMap delta));have K:=zH (yS Y (show j+kN (([t0,t1].take (k+1)).flatMap delta)=q+kN (delta tk) by rw[Y,List.flatMap_append,qP0,<-hq];simp;omega));rw[hq]at Z I;have b:=yT (RD wr.drew R ⟨a,q,tp,k,tc,z,y,cc,N⟩) I.out;obtain⟨UD,GD,OD,ag,V⟩:=yY (p.out.trans (Upd.drew wr R)) (a7.out.below (show yM wr wr wr.drew from(yR _ _).drew) (qPq _)) (s.out.below (show yM wr wr wr.drew from(yR _ _).drew) (qPq _)) (zI7 a q tk N wr.drew O h2 bc hs (fun x hx=>⟨t.one x hx,t.top x hx⟩) Z) (yS t O);clear I p a7 s Z Y hq t O;go_wp2;refine zS [] (fun _=>True) [0,1,2,4,8,0,32,64,128,256,0,1024,2048,4096,8720,16384,32768,32768,32768,131071,786431,2097151] 22<|zp [0,1,2,3,4,5,6,7,8,9,10,11,12,13]<|zk 59 (zP R 0)<|zk 60 (zP R 0)<|zk 61 (zP R 0)<|zk 62 (zP R 0)<|zt 63 (qY a) (zl 9 62 (b.out.l0))<|zk 64 (zP R 0)<|zk 65 (zP R 0)<|zk 66 (zP R 0)<|zk 67 (zP R 1)<|zt 68 (zI q) (zl 3 67 (b.out.l1))<|zk 69 (zP R 0)<|zk 70 (zP R 0)<|zk 71 (zP R 4)<|zt 72 (zI N) (zl 3 71 (b.out.l4))<|zn<|zx 14 73 35 #[qY a,qX qm ((q:Nat):Int),qX qm (N:Int)] ag.out<| ?_
   rintro e w8 ⟨a2,c2,rfl,aa,l⟩;refine⟨_,rfl,qy (qy trivial),?_⟩;refine zp [15,16,17,18,19,20,21]<|zk 58 (qg #[qZ a2 N c2,qX qm ((q+kN (delta tk):Nat):Int),qX qm 0])<|zk 74 (qZ a2 N c2)<|zk 75 (qX qm ((q+kN (delta tk):Nat):Int))<|zk 76 (qX qm 0)<|zk 7 (qZ a2 N c2)<|zk 8 (qX qm ((q+kN (delta tk):Nat):Int))<|zk 9 (qX qm 0)<|zn<|zE<| ?_
   simp only[zP,zI,Act.put,qPx,qPw,qPy];have af:=b.out.lt;obtain⟨K8,U8,O8,G8,T8⟩:=yY (b.out.below l) (UD.out.trans (Upd.of_below l (qP7 af))) (OD.out.below l (qPq _)) (GD.out.below l (qPq _)) (aa.base (B':=E) (by rw[<-HE.out];exact UD.out.size));clear l aa ag b UD GD OD af;obtain⟨q2,X⟩:=zB (q+kN (delta tk));rw[X]at K;rw[X];clear X;have m:=zH (zIc R q2 _ w8 K8.out);go_wp2_with fail;(with_reducible refine m.out.mono ?_);rintro e w9 ⟨rfl,hk,hu⟩;have K9:=yT (RD w9 R ⟨a,q2,tp,k,tc,z,y,cc,N⟩) hk;obtain⟨U9,O9,G9,T9⟩:=yX (U8.out.trans hu) (zEl O8.out hu d) (zXz G8.out hu d) (zEl T8.out hu d);clear hk hu m K8 U8 O8 G8 T8;have ac:=zH (zCk tk a2 N c2 w9 V.out.2 T9.out.src V.out.1);go_wp2_with fail;(with_reducible refine ac.out.mono ?_);rintro e bj ⟨rfl,c⟩;obtain⟨H,P,ad,ah⟩:=yX (K9.out.below c) (U9.out.trans (Upd.of_below c (qP7 K9.out.lt))) (O9.out.below c (qPq _)) (G9.out.below c (qPq _));have g:=T9.out.below c (qPq _);clear c ac K9 U9 O9 G9 T9;go_wp2_with fail;(with_reducible refine(HO.out _).mono ?_);rintro e bk ⟨rfl,rfl⟩;obtain⟨G,rfl,_,_,a9,_,_⟩:=g.at_ za;obtain⟨L,hL⟩:=zB (kN tk);obtain rfl:N=L:=by rw[<-hL];exact V.out.2.symm
   rw[<-hL]at g a9;obtain⟨p2,f,b0,W,n,o,a0⟩:=ah.out.app g a9 za (by have:=P.out.size;rw[HE.out]at this;exact this);rw[hL]at W n;have x2:=H.out.c2;simp only at x2;have l2:=H.out.l2;simp only at l2;have F:=H.out.keep (o.block R za);have f2:=F.fr 2;have an:=F.c2;simp only at an;have aq:=yT (RD (b0.setCell ⟨R,2,yB⟩ (qZ p2 (k+1) f)) R ⟨a,q2,p2,k+1,f,z,y,cc,N⟩) (F.s2 p2 (k+1) f);obtain⟨ar,av,az⟩:=yV (n.set (B:=R) (i:=2) d (qZ p2 (k+1) f)) (zCz (r:=R) (i:=2) (qFe ad.out a0 qW) d (qZ p2 (k+1) f)) ((Upd.bel P.out o HE.out d).trans (Upd.set (i:=2) (v:=qZ p2 (k+1) f)));clear F H ah ad P n o a0 g a9;go_wp2_with (at_builtin;refine xG rfl (.tmp 90) (.tmp 92) 60 rfl rfl rfl W ?_);go_roundw
   case rel=>exact⟨k+1,f,p2,_,za,by go_num,by rw[K.out.2];exact aq,by rw[K.out.1];exact ar,av,az⟩
   case measure=>exact z8
  .obtain rfl:k=2:=za
   rw[show((2:Nat):Int)=(2:Int)from rfl];go_wp2;go_end0;exact⟨_,_,_,_,_,rfl,by rw[HJ.out,Nat.add_assoc];simpa using I.out,a7.out,s.out,p.out⟩
end Bk
end Go.Proofs.YtppnakkaljbmbaaGreatDoor
section
namespace Go.Proofs
open Go.Proofs.YtppnakkaljbmbaaGreatDoor
open Go.Shelf
def Tryz.zKl:Go.Shelf.Ren:=⟨fun|156=>275|165=>311|166=>62|169=>63|240=>140|241=>335|276=>190|277=>355|n=>n,fun|31=>49|9=>9|3=>3|4=>4|0=>0|20=>20|72=>120|76=>125|70=>118|37=>109|75=>124|127=>240|164=>318|5=>5|80=>127|n=>n,fun|n=>n⟩
theorem Tryz.qDk:Go.Proofs.Lays.n156 yK zKl:={
 mixed:=zf
 f156:=func275.trans (qPs yA zf)
 f165:=func311.trans (qPs yA zf)
 f166:=func62.trans (qPs yA zf)
 f169:=func63.trans (qPs yA zf)
 f240:=func140.trans (qPs yA zf)
 f241:=func335.trans (qPs yA zf)
 f276:=func190.trans (qPs yA zf)
 f277:=func355.trans (qPs yA zf)
 t0:=underlying0
 a0:=isAgg0
 z0:=sizeOf0
 v0:=zeroValue0
 t3:=underlying3
 a3:=isAgg3
 z3:=sizeOf3
 v3:=zeroValue3
 t4:=underlying4
 a4:=isAgg4
 z4:=sizeOf4
 v4:=zeroValue4
 t9:=underlying9
 a9:=isAgg9
 z9:=sizeOf9
 v9:=zeroValue9
 t20:=underlying20
 a20:=isAgg20
 z20:=sizeOf20
 v20:=zeroValue20
 t31:=underlying49
 a31:=isAgg49
 z31:=sizeOf49
 v31:=zeroValue49
 t37:=underlying109
 a37:=isAgg109
 z37:=sizeOf109
 v37:=zeroValue109
 t70:=underlying118
 a70:=isAgg118
 z70:=sizeOf118
 v70:=zeroValue118
 t72:=underlying120
 a72:=isAgg120
 z72:=sizeOf120
 v72:=zeroValue120
 t75:=underlying124
 a75:=isAgg124
 z75:=sizeOf124
 v75:=zeroValue124
 t76:=underlying125
 a76:=isAgg125
 z76:=sizeOf125
 v76:=zeroValue125
 t127:=underlying240
 a127:=isAgg240
 z127:=sizeOf240
 v127:=zeroValue240
 t164:=underlying318
 a164:=isAgg318
 z164:=sizeOf318
 v164:=zeroValue318}
theorem Tryz.zKc:Builder.Extra yK zKl:={
 sizeBuilder:=zf
 liesBuilder:=zf
 t5:=underlying5
 a5:=isAgg5
 z5:=sizeOf5
 v5:=zeroValue5
 infoByte:=zf
 cellsByte:=zf
 sizeByte:=zf
 neB5:=by decide}
open Go.RowKit in
theorem Tryz.strings_Join (b o c:Nat) (xs:List ByteArray) (a:ByteArray) (w:yC) (hcells:∀(j:Nat) x,xs[j]? =yA x->w.cell? ⟨b,o+j,yB⟩=yA (qY x)) (g:b<w.heap.size) (h:kN xs<=140737488355328) (d:kN xs<=c) (f:kN (Lib.join (xs.map (·.data.toList)) a.data.toList)<=140737488355328):
  yG yK 275 #[qZ (yA ⟨b,o,yB⟩) (kN xs) c,qY a] w fun e w'=>e=qx (qY ⟨(Lib.join (xs.map (·.data.toList)) a.data.toList).toArray⟩)/\yM w w w':=Any.strings_Join qDk zKc b o c xs a w hcells g h d f
def Tryz.zSx:Go.Shelf.Ren:=⟨fun|137=>272|217=>300|266=>326|n=>n,fun|9=>9|5=>5|3=>3|n=>n,fun|n=>n⟩
theorem Tryz.qDm:Go.Proofs.Lays.n137 yK zSx:={
 mixed:=zf
 f137:=func272.trans (qPs yA zf)
 f217:=func300.trans (qPs yA zf)
 f266:=func326.trans (qPs yA zf)
 t3:=underlying3
 a3:=isAgg3
 z3:=sizeOf3
 v3:=zeroValue3
 t5:=underlying5
 a5:=isAgg5
 z5:=sizeOf5
 v5:=zeroValue5
 t9:=underlying9
 a9:=isAgg9
 z9:=sizeOf9
 v9:=zeroValue9}
open Go.RowKit in
theorem Tryz.strings_IndexByte (s:ByteArray) (c:Int) (w:yC):
  yG yK 272 #[qY s,qX qo c] w fun e w'=>e=qx (qX qm (Lib.indexByte s.data.toList c.toNat.toUInt8))/\w'=w:=Any.strings_IndexByte qDm s c w
def Tryz.zSt:Go.Shelf.Ren:=⟨fun|172=>226|244=>269|245=>270|247=>304|279=>305|280=>306|281=>307|282=>308|287=>328|316=>329|171=>227|205=>330|321=>349|322=>350|243=>271|246=>309|283=>331|284=>332|285=>333|286=>334|129=>241|317=>351|318=>352|319=>353|320=>354|337=>361|338=>362|n=>n,fun|9=>9|3=>3|75=>124|76=>125|4=>4|5=>5|167=>425|37=>109|0=>0|85=>426|2=>2|168=>428|53=>64|175=>449|46=>178|210=>452|127=>240|145=>474|143=>472|21=>21|171=>454|173=>456|212=>476|51=>65|20=>20|213=>477|232=>496|233=>497|80=>127|n=>n,fun|15=>3|16=>4|17=>5|18=>7|19=>8|n=>n⟩
theorem Tryz.qDg:Go.Proofs.Lays.n172 yK zSt:={
 mixed:=zf
 f129:=func241.trans (qPs yA zf)
 f171:=func227.trans (qPs yA zf)
 f172:=func226.trans (qPs yA zf)
 f205:=func330.trans (qPs yA zf)
 f243:=func271.trans (qPs yA zf)
 f244:=func269.trans (qPs yA zf)
 f245:=func270.trans (qPs yA zf)
 f246:=func309.trans (qPs yA zf)
 f247:=func304.trans (qPs yA zf)
 f279:=func305.trans (qPs yA zf)
 f280:=func306.trans (qPs yA zf)
 f281:=func307.trans (qPs yA zf)
 f282:=func308.trans (qPs yA zf)
 f283:=func331.trans (qPs yA zf)
 f284:=func332.trans (qPs yA zf)
 f285:=func333.trans (qPs yA zf)
 f286:=func334.trans (qPs yA zf)
 f287:=func328.trans (qPs yA zf)
 f316:=func329.trans (qPs yA zf)
 f317:=func351.trans (qPs yA zf)
 f318:=func352.trans (qPs yA zf)
 f319:=func353.trans (qPs yA zf)
 f320:=func354.trans (qPs yA zf)
 f321:=func349.trans (qPs yA zf)
 f322:=func350.trans (qPs yA zf)
 f337:=func361.trans (qPs yA zf)
 f338:=func362.trans (qPs yA zf)
 t0:=underlying0
 a0:=isAgg0
 z0:=sizeOf0
 v0:=zeroValue0
 t2:=underlying2
 a2:=isAgg2
 z2:=sizeOf2
 v2:=zeroValue2
 t3:=underlying3
 a3:=isAgg3
 z3:=sizeOf3
 v3:=zeroValue3
 t4:=underlying4
 a4:=isAgg4
 z4:=sizeOf4
 v4:=zeroValue4
 t5:=underlying5
 a5:=isAgg5
 z5:=sizeOf5
 v5:=zeroValue5
 t9:=underlying9
 a9:=isAgg9
 z9:=sizeOf9
 v9:=zeroValue9
 t20:=underlying20
 a20:=isAgg20
 z20:=sizeOf20
 v20:=zeroValue20
 t21:=underlying21
 a21:=isAgg21
 z21:=sizeOf21
 v21:=zeroValue21
 t37:=underlying109
 a37:=isAgg109
 z37:=sizeOf109
 v37:=zeroValue109
 t46:=underlying178
 a46:=isAgg178
 z46:=sizeOf178
 v46:=zeroValue178
 t51:=underlying65
 a51:=isAgg65
 z51:=sizeOf65
 v51:=zeroValue65
 t53:=underlying64
 a53:=isAgg64
 z53:=sizeOf64
 v53:=zeroValue64
 t75:=underlying124
 a75:=isAgg124
 z75:=sizeOf124
 v75:=zeroValue124
 t76:=underlying125
 a76:=isAgg125
 z76:=sizeOf125
 v76:=zeroValue125
 t85:=underlying426
 a85:=isAgg426
 z85:=sizeOf426
 v85:=zeroValue426
 t127:=underlying240
 a127:=isAgg240
 z127:=sizeOf240
 v127:=zeroValue240
 t143:=underlying472
 a143:=isAgg472
 z143:=sizeOf472
 v143:=zeroValue472
 t145:=underlying474
 a145:=isAgg474
 z145:=sizeOf474
 v145:=zeroValue474
 t167:=underlying425
 a167:=isAgg425
 z167:=sizeOf425
 v167:=zeroValue425
 t168:=underlying428
 a168:=isAgg428
 z168:=sizeOf428
 v168:=zeroValue428
 t171:=underlying454
 a171:=isAgg454
 z171:=sizeOf454
 v171:=zeroValue454
 t173:=underlying456
 a173:=isAgg456
 z173:=sizeOf456
 v173:=zeroValue456
 t175:=underlying449
 a175:=isAgg449
 z175:=sizeOf449
 v175:=zeroValue449
 t210:=underlying452
 a210:=isAgg452
 z210:=sizeOf452
 v210:=zeroValue452
 t212:=underlying476
 a212:=isAgg476
 z212:=sizeOf476
 v212:=zeroValue476
 t213:=underlying477
 a213:=isAgg477
 z213:=sizeOf477
 t232:=underlying496
 a232:=isAgg496
 z232:=sizeOf496
 v232:=zeroValue496
 t233:=underlying497
 a233:=isAgg497
 z233:=sizeOf497
 v233:=zeroValue497
 g15:=zf
 g16:=zf
 g17:=zf
 g18:=zf
 g19:=by kernel_rfl}
open Go.RowKit in
theorem Tryz.strconv_Atoi (s:ByteArray) (n:Int) (a:s.size<=18) (h:Lib.atoi s.data.toList=yA n) (w:yC):
  yG yK 226 #[qY s] w fun e w'=>e=qx (qg #[qX qm n,.nilIface])/\∃t,w'=Lib.bytesWorld w 5 t:=Any.strconv_Atoi qDg s n a h w
def Tryz.zSu:Go.Shelf.Ren:=⟨fun|171=>227|243=>271|246=>309|283=>331|284=>332|285=>333|286=>334|129=>241|317=>351|318=>352|319=>353|320=>354|337=>361|338=>362|n=>n,fun|3=>3|9=>9|2=>2|4=>4|171=>454|0=>0|53=>64|37=>109|5=>5|173=>456|212=>476|51=>65|20=>20|213=>477|46=>178|232=>496|233=>497|n=>n,fun|17=>5|18=>7|19=>8|n=>n⟩
theorem Tryz.qDh:Go.Proofs.Lays.n171 yK zSu:={
 mixed:=zf
 f129:=func241.trans (qPs yA zf)
 f171:=func227.trans (qPs yA zf)
 f243:=func271.trans (qPs yA zf)
 f246:=func309.trans (qPs yA zf)
 f283:=func331.trans (qPs yA zf)
 f284:=func332.trans (qPs yA zf)
 f285:=func333.trans (qPs yA zf)
 f286:=func334.trans (qPs yA zf)
 f317:=func351.trans (qPs yA zf)
 f318:=func352.trans (qPs yA zf)
 f319:=func353.trans (qPs yA zf)
 f320:=func354.trans (qPs yA zf)
 f337:=func361.trans (qPs yA zf)
 f338:=func362.trans (qPs yA zf)
 t0:=underlying0
 a0:=isAgg0
 z0:=sizeOf0
 v0:=zeroValue0
 t2:=underlying2
 a2:=isAgg2
 z2:=sizeOf2
 v2:=zeroValue2
 t3:=underlying3
 a3:=isAgg3
 z3:=sizeOf3
 v3:=zeroValue3
 t4:=underlying4
 a4:=isAgg4
 z4:=sizeOf4
 v4:=zeroValue4
 t5:=underlying5
 a5:=isAgg5
 z5:=sizeOf5
 v5:=zeroValue5
 t9:=underlying9
 a9:=isAgg9
 z9:=sizeOf9
 v9:=zeroValue9
 t20:=underlying20
 a20:=isAgg20
 z20:=sizeOf20
 v20:=zeroValue20
 t37:=underlying109
 a37:=isAgg109
 z37:=sizeOf109
 v37:=zeroValue109
 t46:=underlying178
 a46:=isAgg178
 z46:=sizeOf178
 v46:=zeroValue178
 t51:=underlying65
 a51:=isAgg65
 z51:=sizeOf65
 v51:=zeroValue65
 t53:=underlying64
 a53:=isAgg64
 z53:=sizeOf64
 v53:=zeroValue64
 t171:=underlying454
 a171:=isAgg454
 z171:=sizeOf454
 v171:=zeroValue454
 t173:=underlying456
 a173:=isAgg456
 z173:=sizeOf456
 v173:=zeroValue456
 t212:=underlying476
 a212:=isAgg476
 z212:=sizeOf476
 v212:=zeroValue476
 t213:=underlying477
 a213:=isAgg477
 z213:=sizeOf477
 t232:=underlying496
 a232:=isAgg496
 z232:=sizeOf496
 v232:=zeroValue496
 t233:=underlying497
 a233:=isAgg497
 z233:=sizeOf497
 v233:=zeroValue497
 g17:=zf
 g18:=zf
 g19:=by kernel_rfl}
open Go.RowKit Go.Sort Go.Lib in
theorem Tryz.strconv_Itoa_small (i:Nat) (hi:i<100) (w:yC):
  yG yK 227 #[qX qm i] w fun e w'=>e=qx (qY ⟨(Lib.decDigits i).toArray⟩)/\w'=w:=Any.strconv_Itoa_small qDh i hi w
def Tryz.zU5:Go.Shelf.Ren:=⟨fun|99=>283|206=>314|n=>n,fun|9=>9|4=>4|3=>3|n=>n,fun|n=>n⟩
theorem Tryz.qFr:Go.Proofs.Lays.n99 yK zU5:={
 mixed:=zf
 f99:=func283.trans (qPs yA zf)
 f206:=func314.trans (qPs yA zf)
 t3:=underlying3
 a3:=isAgg3
 z3:=sizeOf3
 v3:=zeroValue3
 t4:=underlying4
 a4:=isAgg4
 z4:=sizeOf4
 v4:=zeroValue4
 t9:=underlying9
 a9:=isAgg9
 z9:=sizeOf9
 v9:=zeroValue9}
open Go.RowKit Go.Lib in
theorem Tryz.strings_HasPrefix (s p:ByteArray) (w:yC):
  yG yK 283 #[qY s,qY p] w fun e w'=>e=qx (qh (Lib.hasPrefix s.data.toList p.data.toList))/\w'=w:=Any.strings_HasPrefix qFr s p w
def Tryz.zS2:Go.Shelf.Ren:=⟨fun|102=>122|209=>174|207=>230|n=>n,fun|9=>9|4=>4|3=>3|n=>n,fun|n=>n⟩
theorem Tryz.qDr:Go.Proofs.Lays.n102 yK zS2:={
 mixed:=zf
 f102:=func122.trans (qPs yA zf)
 f207:=func230.trans (qPs yA zf)
 f209:=func174.trans (qPs yA zf)
 t3:=underlying3
 a3:=isAgg3
 z3:=sizeOf3
 v3:=zeroValue3
 t4:=underlying4
 a4:=isAgg4
 z4:=sizeOf4
 v4:=zeroValue4
 t9:=underlying9
 a9:=isAgg9
 z9:=sizeOf9
 v9:=zeroValue9}
open Go.RowKit Go.Lib in
theorem Tryz.strings_TrimSuffix (s p:ByteArray) (w:yC) (a:s.size<=9223372036854775807):
  yG yK 122 #[qY s,qY p] w fun e w'=>e=qx (qY ⟨(Lib.trimSuffix s.data.toList p.data.toList).toArray⟩)/\w'=w:=Any.strings_TrimSuffix qDr s p w a
def Tryz.zSr:Go.Shelf.Ren:=⟨fun|221=>169|268=>207|138=>208|143=>209|195=>262|197=>263|218=>264|219=>265|260=>299|217=>300|225=>301|224=>302|267=>303|266=>326|314=>327|n=>n,fun|9=>9|3=>3|31=>49|4=>4|0=>0|105=>376|21=>21|5=>5|46=>178|119=>443|139=>446|138=>445|146=>447|51=>65|n=>n,fun|1=>0|3=>1|4=>2|n=>n⟩
theorem Tryz.qDe:Go.Proofs.Lays.n221 yK zSr:={
 mixed:=zf
 f138:=func208.trans (qPs yA zf)
 f143:=func209.trans (qPs yA zf)
 f195:=func262.trans (qPs yA zf)
 f197:=func263.trans (qPs yA zf)
 f217:=func300.trans (qPs yA zf)
 f218:=func264.trans (qPs yA zf)
 f219:=func265.trans (qPs yA zf)
 f221:=func169.trans (qPs yA zf)
 f224:=func302.trans (qPs yA zf)
 f225:=func301.trans (qPs yA zf)
 f260:=func299.trans (qPs yA zf)
 f266:=func326.trans (qPs yA zf)
 f267:=func303.trans (qPs yA zf)
 f268:=func207.trans (qPs yA zf)
 f314:=func327.trans (qPs yA zf)
 t0:=underlying0
 a0:=isAgg0
 z0:=sizeOf0
 v0:=zeroValue0
 t3:=underlying3
 a3:=isAgg3
 z3:=sizeOf3
 v3:=zeroValue3
 t4:=underlying4
 a4:=isAgg4
 z4:=sizeOf4
 v4:=zeroValue4
 t5:=underlying5
 a5:=isAgg5
 z5:=sizeOf5
 v5:=zeroValue5
 t9:=underlying9
 a9:=isAgg9
 z9:=sizeOf9
 v9:=zeroValue9
 t21:=underlying21
 a21:=isAgg21
 z21:=sizeOf21
 v21:=zeroValue21
 t31:=underlying49
 a31:=isAgg49
 z31:=sizeOf49
 v31:=zeroValue49
 t46:=underlying178
 a46:=isAgg178
 z46:=sizeOf178
 v46:=zeroValue178
 t51:=underlying65
 a51:=isAgg65
 z51:=sizeOf65
 v51:=zeroValue65
 t105:=underlying376
 a105:=isAgg376
 z105:=sizeOf376
 v105:=zeroValue376
 t119:=underlying443
 a119:=isAgg443
 z119:=sizeOf443
 t138:=underlying445
 a138:=isAgg445
 z138:=sizeOf445
 v138:=zeroValue445
 t139:=underlying446
 a139:=isAgg446
 z139:=sizeOf446
 v139:=zeroValue446
 t146:=underlying447
 a146:=isAgg447
 z146:=sizeOf447
 v146:=zeroValue447
 g1:=zf
 g3:=zf
 g4:=by kernel_rfl}
open Go.RowKit Go.Lib in
theorem Tryz.strings_genSplit (s a:ByteArray) (b:Nat) (n:Int) (N:Nat) (m:Int) (w:yC) (j:s.size<4294967281) (i:w.cell? ⟨0,0,yB⟩=yA (qX qm m)) (g:1<=a.size) (f:b<=a.size) (d:n≠0) (c:n<=9223372036854775807) (h:(N:Int)=min (if n<0 then(Lib.countB s a:Int)+1 else n) ((s.size:Int)+1)):
  yG yK 169 #[qY s,qY a,qX qm b,qX qm n] w fun e w'=>
   e=qx (qZ (yA ⟨w,0,yB⟩) (kN (Lib.splitB a b (N-1) s)) N)/\w'=w.alloc (qp (Lib.cellsOf (Lib.splitB a b (N-1) s) N) 9):=Any.strings_genSplit qDe zf s a b n N m w j i g f d c h
def Tryz.zSw:Go.Shelf.Ren:=⟨fun|146=>170|221=>169|268=>207|138=>208|143=>209|195=>262|197=>263|218=>264|219=>265|260=>299|217=>300|225=>301|224=>302|267=>303|266=>326|314=>327|n=>n,fun|9=>9|31=>49|3=>3|4=>4|0=>0|105=>376|21=>21|5=>5|46=>178|119=>443|139=>446|138=>445|146=>447|51=>65|n=>n,fun|1=>0|3=>1|4=>2|n=>n⟩
theorem Tryz.qDl:Go.Proofs.Lays.n146 yK zSw:={
 mixed:=zf
 f138:=func208.trans (qPs yA zf)
 f143:=func209.trans (qPs yA zf)
 f146:=func170.trans (qPs yA zf)
 f195:=func262.trans (qPs yA zf)
 f197:=func263.trans (qPs yA zf)
 f217:=func300.trans (qPs yA zf)
 f218:=func264.trans (qPs yA zf)
 f219:=func265.trans (qPs yA zf)
 f221:=func169.trans (qPs yA zf)
 f224:=func302.trans (qPs yA zf)
 f225:=func301.trans (qPs yA zf)
 f260:=func299.trans (qPs yA zf)
 f266:=func326.trans (qPs yA zf)
 f267:=func303.trans (qPs yA zf)
 f268:=func207.trans (qPs yA zf)
 f314:=func327.trans (qPs yA zf)
 t0:=underlying0
 a0:=isAgg0
 z0:=sizeOf0
 v0:=zeroValue0
 t3:=underlying3
 a3:=isAgg3
 z3:=sizeOf3
 v3:=zeroValue3
 t4:=underlying4
 a4:=isAgg4
 z4:=sizeOf4
 v4:=zeroValue4
 t5:=underlying5
 a5:=isAgg5
 z5:=sizeOf5
 v5:=zeroValue5
 t9:=underlying9
 a9:=isAgg9
 z9:=sizeOf9
 v9:=zeroValue9
 t21:=underlying21
 a21:=isAgg21
 z21:=sizeOf21
 v21:=zeroValue21
 t31:=underlying49
 a31:=isAgg49
 z31:=sizeOf49
 v31:=zeroValue49
 t46:=underlying178
 a46:=isAgg178
 z46:=sizeOf178
 v46:=zeroValue178
 t51:=underlying65
 a51:=isAgg65
 z51:=sizeOf65
 v51:=zeroValue65
 t105:=underlying376
 a105:=isAgg376
 z105:=sizeOf376
 v105:=zeroValue376
 t119:=underlying443
 a119:=isAgg443
 z119:=sizeOf443
 t138:=underlying445
 a138:=isAgg445
 z138:=sizeOf445
 v138:=zeroValue445
 t139:=underlying446
 a139:=isAgg446
 z139:=sizeOf446
 v139:=zeroValue446
 t146:=underlying447
 a146:=isAgg447
 z146:=sizeOf447
 v146:=zeroValue447
 g1:=zf
 g3:=zf
 g4:=by kernel_rfl}
open Go.RowKit Go.Lib in
theorem Tryz.strings_Split (s a:ByteArray) (m:Int) (w:yC) (d:s.size<4294967281) (c:w.cell? ⟨0,0,yB⟩=yA (qX qm m)) (b:1<=a.size):
  yG yK 170 #[qY s,qY a] w fun e w'=>
   e=qx (qZ (yA ⟨w,0,yB⟩) (Lib.countB s a+1) (Lib.countB s a+1))/\w'=w.alloc (qp ((Lib.splitB a 0 (Lib.countB s a) s).map Value.string).toArray 9):=Any.strings_Split qDl zf s a m w d c b
end Go.Proofs
end
namespace Go.Proofs.YtppnakkaljbmbaaGreatDoor
namespace Sm
open Bt Zr Front Sq St Tn Bk
def zAx (x:BitVec 32):yD:=qX .u32 (xJ x)
theorem zPv (l:List (BitVec 32)):∀u∈l.map zAx,u.oneCell'=yH:=by
 intro u a;obtain⟨x,_,rfl⟩:=qQg.1 a;rfl
theorem zUb (a:Option yF) (n c:Nat) (l:List (BitVec 32)) (w:yC) (o:kN l=n) (u:n<=100000) (h:yt w a (l.map zAx)):
  yG yK 131 #[qZ a n c] w fun e w'=>e=qx (qX .u32 (xJ (l.foldl kE 0#32)))/\w'=w:=by
 obtain⟨q,j,p⟩:=yV h o (fun(a b:BitVec 32) (w:yC)=>Crc.qA2 a b w);clear h o;go_enter func131,ntmps131;go_wp2;go_loopw [2,7] (fun t iv wr=>∃k:Nat,k<=n/\iv=qX qm k/\t=qX .u32 (xJ ((l.take k).foldl kE 0#32))/\wr=w) (fun _ iv _=>n-(intOf iv).toNat)
 case atStart=>exact⟨0,za,rfl,by rw[qS6];show Value.int .u32 0=qX .u32 (xJ 0#32);unfold xJ;rfl,rfl⟩
 case round=>
  obtain⟨k,y,rfl,rfl,rfl⟩:=hrel;by_cases f:k<n
  .have d:k<kN l:=by rw[j.out];exact f
   obtain⟨x,i⟩:=zB (l[k]);obtain⟨g,off,rfl,r⟩:=q.out k (zAx x) (by rw[qP3,qPu d,i];rfl);have m:=yT ((l.take (k+1)).foldl kE 0#32=kE ((l.take k).foldl kE 0#32) x) (by rw[qQp d,i,qTh];rfl);obtain⟨s,h⟩:=zB ((l.take k).foldl kE 0#32);rw[h]at m⊢;unfold zAx at r;clear i h;go_wp2_with fail;(with_reducible refine(p.out s x _).mono ?_);rintro e z ⟨rfl,rfl⟩;go_wp2;go_roundw
   case rel=>exact⟨k+1,za,by go_num,by rw[m.out],trivial⟩
   case measure=>exact z8
  .obtain rfl:k=n:=za
   go_wp2;go_ret;exact⟨by rw[qQc (by rw[j.out];exact qPq _)];rfl,rfl⟩
abbrev TSr:yE:=316
def SR (w:yC) (K:Nat) (a:ByteArray) (i:Nat) (p:Option yF) (n c:Nat):Prop:=w.heap[K]? =yA (qp #[qY a,i,qZ p n c] TSr)
section
variable {w w':yC} {K i n c:Nat} {a:ByteArray} {p:Option yF}
theorem SR.lt (h:SR w K a i p n c):K<w.heap.size:=zAd h
theorem SR.keep (h:SR w K a i p n c) (e:w'.heap[K]? =w.heap[K]?):SR w' K a i p n c:=e.trans h
theorem SR.below (h:SR w K a i p n c) (b:yM w w w'):SR w' K a i p n c:=h.keep (b.block K h.lt)
theorem SR.c0 (h:SR w K a i p n c):w.cell? ⟨K,0,yB⟩=yA (qY a):=by unfold SR at h;simp[yQ,h]
theorem SR.c1 (h:SR w K a i p n c):w.cell? ⟨K,1,yB⟩=yA (qX qm (i:Int)):=by unfold SR at h;simp[yQ,h]
theorem SR.c2 (h:SR w K a i p n c):w.cell? ⟨K,2,yB⟩=yA (qZ p n c):=by unfold SR at h;simp[yQ,h]
theorem SR.fr (h:SR w K a i p n c) (j:Nat):w.frozen? ⟨K,j,yB⟩=yI:=by unfold SR at h;simp[World.frozen?,h]
theorem SR.s1 (h:SR w K a i p n c) (j:Nat) {V:Int} (b:V=(j:Int)):SR (w.setCell ⟨K,1,yB⟩ (qX qm V)) K a j p n c:=by
 subst b;unfold SR at*;simp[World.setCell,qQt,h]
theorem SR.s2 (h:SR w K a i p n c) (q:Option yF) (m d:Nat):SR (w.setCell ⟨K,2,yB⟩ (qZ q m d)) K a i q m d:=by
 unfold SR at*;simp[World.setCell,qQt,h]
end
theorem qCr {w w':yC} {K:Nat} {p:Option yF} {xs:List yD} (h:yt w p xs) (f:Upd w w' K) (hne:∀q,p=yA q->q.block≠K):yt w' p xs:=by
 intro j u e;obtain⟨b,a,c,d⟩:=h j u e;exact⟨b,a,c,(zQ2 (f.old b (qQk d) (hne _ c))).trans d⟩
theorem zFr (K i n c r:Nat) (a:ByteArray) (p:Option yF) (o:List T) (w:yC) (h:SR w K a i p n c) (hs:a.size<=100000000) (I:kN o=n) (O:n<=100000) (y:yt w p ((o.map xD).map zAx)) (hne:∀q,p=yA q->q.block≠K) (G:At a i (zF o)) (x:(8-(i+80)%8)%8=r) (z:i+80+r=8*a.size) (L:val (take a (i+80) r)=0):
  yG yK 246 #[qc (yA ⟨K,0,yB⟩)] w fun e w'=>e=qx (qX qm 0)/\SR w' K a (8*a.size) p n c/\Upd w w' K:=by
 have g:=Bk.At.right G (j:=i+48) (by rw[zAc]);have l:=Bk.At.bound g;rw[zAc]at l;have k:=zH (fun W=>(zB7 a (i+48) 32 za za za W).mono (fun _ _ h=>(⟨h.1,h.2.symm⟩:_/\_)));rw[At.val g (by exact(zVr o).isLt)]at k;have f:=zH (fun W=>(zB7 a (i+80) r za za za W).mono (fun _ _ h=>(⟨h.1,h.2.symm⟩:_/\_)));rw[L,show((0:Nat):Int)=0 from rfl]at f;obtain⟨S,t⟩:=zB (zVr o);rw[t]at k;have a0:=S.isLt;obtain⟨q,u,a1⟩:∃q:Nat,(i+80)%8=q/\q<8:=⟨_,rfl,za⟩;rw[u]at x;have t1:((i:Int)+80).tmod 8=(q:Int):=by rw[qS5 za];omega
 have t2:(8-(q:Int)).tmod 8=(r:Int):=by rw[qS5 za];omega
 have i0:IntKind.i64.wrap ((i:Int)+48)=(i:Int)+48:=qQa _ ⟨za,za⟩;have i1:IntKind.i64.wrap ((i:Int)+80)=(i:Int)+80:=qQa _ ⟨za,za⟩;have i2:IntKind.i64.wrap (8-(q:Int))=8-(q:Int):=qQa _ ⟨za,za⟩;have i3:IntKind.i64.wrap ((i:Int)+80+(r:Int))=(i:Int)+80+(r:Int):=qQa _ ⟨za,za⟩;have i4:IntKind.u32.wrap (S.toNat:Int)=xJ S:=by rw[IntWalk.u32_in _ ⟨za,za⟩];unfold xJ;rfl
 have m:=zH (fun(W:yC) (X:Upd w W K)=>show yG yK 131 #[qZ p n c] W fun e w'=>e=qx (qX .u32 (xJ S))/\w'=W from by
  have h:=zUb p n c (o.map xD) W (by rw[qQj,I]) O (qCr y X hne);rw[show(o.map xD).foldl kE 0#32=S from t]at h;exact h)
 have Y:=h.c0;have Z:=h.c1;have x2:=h.c2;have V:=h.fr 1;obtain⟨H,R⟩:=yU h (yS x (yS z u));clear h G g l x z L u t y I;go_enter func246,ntmps246;go_wp2;go_quiet ((go_at_call 32;exact Calls.quiet_of_same (k.out _)));go_wp2;obtain⟨w2,d⟩:=zB ((w.drewN nq).setCell ⟨K,1,yB⟩ (qX qm ((i:Int)+80)));have s:=yT (SR w2 K a (i+80) p n c) (by rw[<-d];exact SR.s1 (show SR (w.drewN nq) K a i p n c from H.out) (i+80) za);have B:=yT (Upd w w2 K) (by rw[<-d];exact(show Upd w (w.drewN nq) K from⟨fun _ _ _=>rfl,⟨rfl,rfl,rfl,qPq _,fun _ _=>rfl⟩⟩).trans Upd.set);have y0:=s.out.c0;have N:=s.out.c1;have y2:=s.out.c2;have g1:=s.out.fr 1;rw[d];rw[show((i+80:Nat):Int)=(i:Int)+80 by omega]at N f;clear Y Z x2 V d H;go_quiet ((go_at_call 32;exact Calls.quiet_of_same (f.out _)));go_wp2_with fail;obtain⟨M,b⟩:=zB ((w2.drewN nq).setCell ⟨K,1,yB⟩ (qX qm ((i:Int)+80+(r:Int))));have P:=yT (SR M K a (8*a.size) p n c) (by rw[<-b];exact SR.s1 (show SR (w2.drewN nq) K a (i+80) p n c from s.out) (8*a.size) (by have:=R.out.2.1;omega));have F:=yT (Upd w M K) (by rw[<-b];exact B.out.trans ((show Upd w2 (w2.drewN nq) K from⟨fun _ _ _=>rfl,⟨rfl,rfl,rfl,qPq _,fun _ _=>rfl⟩⟩).trans Upd.set));rw[b];clear b y0 N y2 g1 s B;(with_reducible refine(m.out _ F.out).mono ?_);rintro e w5 ⟨rfl,rfl⟩;go_wp2;go_ret;exact⟨rfl,P.out,F.out⟩
end Sm
namespace Sm
open Bt Front
variable {a:ByteArray} {lev:Nat}
def Hd (a:ByteArray) (lev:Nat):Prop:=∀k,k<4->a.data.toList[k]? =yA (([80,77,107,UInt8.ofNat (48+lev)]:T).getD k 0)
theorem extract_all (a:ByteArray):a.extract 0 a.size=a:=by
 apply ByteArray.ext;simp
theorem Hd.size (h:Hd a lev):4<=a.size:=by
 have b:=h 3 za;rcases qP8 3 (kN a.data.toList) with c|c
 .have:kN a.data.toList=a.size:=by simp
  omega
 .rw[qQq c]at b;cases b
theorem Hd.digit (h:Hd a lev) (f:lev<10) (d:3<a.size):(a[3].toNat:Int)=48+(lev:Int):=by
 have b:=h 3 za;have c:a.data.toList[3]? =yA a[3]:=by
  rw[List.getElem?_eq_getElem (by simpa using d)];rfl
 rw[c]at b;have e:=qPv b;rw[e];show((UInt8.ofNat (48+lev)).toNat:Int)=_;rw[ofNat_toNat za];omega
theorem Hd.pre (h:Hd a lev):Lib.hasPrefix a.data.toList [80,77,107]=yH:=by
 have b:=h 0 za;have c:=h 1 za;have d:=h 2 za
 match hl:a.data.toList with
 |[]=>rw[hl]at b;cases b
 |[x]=>rw[hl]at c;cases c
 |[x,y]=>rw[hl]at d;cases d
 |x::y::z::l=>
  rw[hl]at b c d;have e:x=80:=qPv b;have f:y=77:=qPv c;have g:z=107:=qPv d;subst e f g;simp[Lib.hasPrefix]
theorem zZm (a:ByteArray) (lev:Nat) (k:a.size<=100000000) (g:1<=lev) (j:lev<=9) (h:Hd a lev) (w:yC):
  yG yK 245 #[qY a,qX qm 0] w fun e w'=>e=qx (qg #[qX qm ((40*lev:Nat):Int),qX qm 0])/\w'=w:=by
 have i:=h.size;have hd:=h.digit za za;have l:=extract_all a;obtain⟨d,b⟩:∃d:UInt8,a[3]=d:=⟨_,rfl⟩;rw[b]at hd;have f:=yT (yG yK 283 #[qY a,qY ⟨#[80,77,107]⟩] w fun e w'=>e=qx (qh yH)/\w'=w) (by
  have c:=strings_HasPrefix a ⟨#[80,77,107]⟩ w;rw[show(⟨#[80,77,107]⟩:ByteArray).data.toList=[80,77,107]from rfl,h.pre]at c;exact c)
 clear h;go_enter func245,ntmps245;go_wp2_with fail;(with_reducible refine f.out.mono ?_);rintro e o ⟨rfl,rfl⟩;have m:¬(d.toNat:Int)<49:=za
 have n:¬(57:Int)<(d.toNat:Int):=za
 go_wp2;go_ret2;refine⟨?_,rfl⟩;rw[show((40*lev:Nat):Int)=40*(48+(lev:Int)-48)by omega];rfl
end Sm
namespace Bk
open Hf Bt Zr Front Wg Ch Sq St Tn
def tabs (ch a b:List Nat) (k:Nat):List Nat:=if ch.getD k 0=1 then b else a
theorem zT9 {a:ByteArray} {i q:Nat} {T:Nat->List Nat} {m:List Nat} (h:At a i (zA0 T m 0 (kN m))) (c:q<kN m):
  At a (i+kN (zA0 T m 0 q)) (word (T (q/10)) (m.getD q 0))/\zA0 T m 0 (q+1)=zA0 T m 0 q++word (T (q/10)) (m.getD q 0):=by
 obtain⟨r,b⟩:∃r,kN m=q+(r+1):=⟨kN m-q-1,za⟩;rw[b,body_add,qQd,zJa]at h;refine⟨At.left (At.right h rfl),?_⟩;rw[body_add,qQd,show(1:Nat)=0+1 from rfl,zJa];simp[zA0]
theorem zSg (R D z N i tc cc M:Nat) (tp cq:Option yF) (vs:List yD) (a:ByteArray) (ch t0 t1 m:List Nat) (w:yC) (h:RD w R ⟨a,i,tp,2,tc,cq,z,cc,N⟩) (hG:Gr w D tp 2 tc vs [t0,t1]) (hO:yu w D 3 cq z cc (ch.map ival)) (hR:R<D) (hD:D<=w.heap.size) (hs:a.size<=100000000) (b8:∀x∈ch,x<=1)
  (bb:Right t0) (bc:Right t1) (b9:kN t0=N) (ba:kN t1=N) (hM:kN m=M) (b7:(M+9)/10=z) (bg:0<M) (bh:M<=100000) (hN:0<N) (bi:N<=258) (hm:∀q,q<M->m.getD q 0<N/\(m.getD q 0+1=N↔q+1=M)) (ha:At a i (zA0 (tabs ch t0 t1) m 0 (kN m))):
  yG yK 318 #[qc (yA ⟨R,0,yB⟩)] w fun e w'=>∃mp mc,e=qx (qZ mp M mc)/\RD w' R ⟨a,i+kN (zA0 (tabs ch t0 t1) m 0 (kN m)),tp,2,tc,cq,z,cc,N⟩/\
   yu w' w.heap.size 3 mp M mc (m.map ival)/\Upd w w' R:=by
 obtain⟨E,hE⟩:=zB w.heap.size;have am:R<E:=by rw[<-hE];exact h.lt
 obtain⟨cg,rfl,_,_,bj,_,_⟩:=hO.at_ za;obtain⟨tg,rfl,_,_,bp,_,_⟩:=hG.own.at_ za;have aq:kN ch=z:=by have:=hO.len;rwa[qQj]at this
 obtain⟨az,HM,b0,a4,b5,ay,R0,R1,L0⟩:=yj (fun(q:Nat) (hq:q<kN m)=>zT9 ha hq) hM hm b7 aq b8 bb bc b9;obtain⟨L1,HE,K0,G0,O0,HD⟩:=yZ ba hE h hG hO hD;have x3:=h.c3;have l3:=h.l3;simp only at x3 l3;have bf:z<=10000:=za
 have b2:0<z:=za
 have au:=zH (fun(e:Int) (w:yC)=>zJv e w);rw[hE];clear h hG hO ha hM hm b7 aq b8 bb bc b9 ba hE hD;go_enter func318,ntmps318;go_wp2;clear x3 l3;go_loopw [2,13] (fun ov iv wr=>∃(k mc:Nat) (mp:Option yF),k<z/\iv=qX qm k/\ov=qZ mp (10*k) mc/\yL (RD wr R ⟨a,i+kN (zA0 (tabs ch t0 t1) m 0 (10*k)),yA ⟨tg,0,yB⟩,2,tc,yA ⟨cg,0,yB⟩,z,cc,N⟩)/\yL (yu wr E 3 mp (10*k) mc ((m.take (10*k)).map ival))/\yL (Upd w wr R)) (fun _ iv _=>z-(intOf iv).toNat)
 case atStart=>exact⟨0,0,yB,b2,rfl,rfl,K0,zH (Kit.Own.start _ _ _),zH (Upd.refl _ _)⟩
 case round=>
  obtain⟨k,mc,mp,hk,rfl,rfl,o,d,b⟩:=hrel;have ho:=zEl O0.out b.out hR;obtain⟨g',r,_,_,_,l,_⟩:=ho.at_ za;obtain rfl:cg=g':=by injection r with r;injection r
  have L:k<kN ch:=by rw[b5.out];exact hk
  obtain⟨x,hx⟩:=zB (ch[k]);have bu:x<=1:=by rw[<-hx];exact ay.out _ (qP9 L)
  have x0:wr.cell? ⟨cg,k,yB⟩=yA (qX qm (x:Int)):=by rw[l k hk,qP3,qPu L,hx];rfl
  obtain⟨tk,ak,ad,ac,ah⟩:∃tk,tabs ch t0 t1 k=tk/\Right tk/\kN tk=N/\[t0,t1][x]? =yA tk:=by
   unfold tabs;rw[qPz,qPu L,qQ5,hx];obtain rfl|rfl:x=0\/x=1:=za
   .exact⟨t0,rfl,R0.out,L0.out,rfl⟩
   .exact⟨t1,rfl,R1.out,L1.out,rfl⟩
  obtain⟨ar,Y,b6⟩:=yV ak (yS ad ac) ah;have bd:10*k<M:=by have:=a4.out;omega
  clear ho l hx ak ad ac ah L;go_wp2;clear x0;go_loopw [2,18] (fun ov iv wr=>∃(j mc:Nat) (mp:Option yF),j<=10/\10*k+j<M/\iv=qX qm j/\ov=qZ mp (10*k+j) mc/\yL (RD wr R ⟨a,i+kN (zA0 (tabs ch t0 t1) m 0 (10*k+j)),yA ⟨tg,0,yB⟩,2,tc,yA ⟨cg,0,yB⟩,z,cc,N⟩)/\yL (yu wr E 3 mp (10*k+j) mc ((m.take (10*k+j)).map ival))/\yL (Upd w wr R)) (fun _ iv _=>10-(intOf iv).toNat)
  case atStart=>exact⟨0,mc,mp,za,za,rfl,rfl,o,d,b⟩
  case round=>
   clear o d b;obtain⟨j,mc,mp,hj,a1,rfl,rfl,o,d,b⟩:=hrel;by_cases bo:j<10
   .obtain⟨q,hq⟩:=zB (10*k+j);rw[hq]at o d a1;have b3:q/10=k:=za
    have V:q<kN m:=by rw[HM.out];exact a1
    obtain⟨F,K⟩:=az.out q V;rw[b3,ar.out]at F K;obtain⟨s,a6⟩:=zB (m.getD q 0);obtain⟨ai,S⟩:=b0.out q a1;rw[a6]at F K ai S;have H:m.take (q+1)=m.take q++[s]:=by
     rw[qQp V,<-a6,qPz,qPu V];rfl
    obtain⟨p,hp⟩:=zB (i+kN (zA0 (tabs ch t0 t1) m 0 q));have Z:=yT (i+kN (zA0 (tabs ch t0 t1) m 0 (q+1))=p+tk.getD s 0) (by rw[K,qP0,zCu,<-hp];omega);have av:=zH H;rw[hp]at o F;have a3:=zXz G0.out b.out hR;obtain⟨G,gc,hv,ax,O⟩:=a3.each x tk b6.out;obtain⟨g',r,_,_,_,l,_⟩:=a3.own.at_ za;obtain rfl:tg=g':=by injection r with r;injection r
    have LT:=yT ((loadVar 23 ⟨tg,x,yB⟩).run yK wr.drew= .ok (qZ (yA ⟨G,0,yB⟩) N gc) wr.drew) (yw (by show wr.cell? ⟨tg,x,yB⟩=_;rw[l x za,hv,Y.out.2]) zf zf);have a9:G<wr.drew.heap.size:=by obtain⟨_,cs,f,hh⟩:=zXc O;exact zAd hh
    have ap:=zH (zO2 tk (yA ⟨G,0,yB⟩) N gc a p s wr.drew Y.out.2 (O.src.below (show yM wr wr wr.drew from(yR _ _).drew)) (fun p hp=>by injection hp with hp;rw[<-hp];exact a9) Y.out.1 ai hs F);have B:=yT (RD wr.drew R ⟨a,p,yA ⟨tg,0,yB⟩,2,tc,yA ⟨cg,0,yB⟩,z,cc,N⟩) o.out;obtain⟨UD,OD,ag,HQ⟩:=yX (b.out.trans (Upd.drew wr R)) (d.out.below (show yM wr wr wr.drew from(yR _ _).drew) (qPq _)) S hq;clear o d b F K H a6 hp a3 hv ax O l a9 S hq;go_wp2;refine zS [] (fun _=>True) [0,1,2,4,0,24,32,0,128,256,512,1024,0,4096,8192,16384,32768,67648,131072,262144,262144,262144,1048575,6291455,16777215] 25<|zp [0,1,2,3,4,5,6,7,8,9,10,11,12,13,14,15,16]<|zk 21 (zP R 0)<|zk 22 (zP R 0)<|zk 23 (zP R 2)<|zt 24 (qZ (yA ⟨tg,0,yB⟩) 2 tc) (zl 60 23 (B.out.l2))<|zk 25 (zI x)<|zt 26 (zP tg x) (Kit.zBo (t:=60) (x:=(.tmp 24)) (y:=(.tmp 25)) (g:=tg) (n:=2) (c:=tc) (k:=x) rfl zf zf za underlying60 (fun _=>sizeOf23 _) _)<|zt 27 (qZ (yA ⟨G,0,yB⟩) N gc) (zl 23 26 (LT.out))<|zk 28 (zP R 0)<|zk 29 (zP R 0)<|zk 30 (zP R 0)<|zk 31 (zP R 0)<|zt 32 (qY a) (zl 9 31 (B.out.l0))<|zk 33 (zP R 0)<|zk 34 (zP R 0)<|zk 35 (zP R 0)<|zk 36 (zP R 1)<|zt 37 (zI p) (zl 3 36 (B.out.l1))<|zn<|zx 17 38 36 #[qZ (yA ⟨G,0,yB⟩) N gc,qY a,qX qm ((p:Nat):Int)] ap.out<| ?_
    rintro e w8 ⟨rfl,I⟩;refine⟨_,rfl,qy (qy trivial),?_⟩;refine zp [18,19,20,21,22,23,24]<|zk 20 (qg #[s,qX qm ((p+tk.getD s 0:Nat):Int),qX qm 0])<|zk 39 (zI s)<|zk 40 (qX qm ((p+tk.getD s 0:Nat):Int))<|zk 41 (qX qm 0)<|zk 5 (zI s)<|zk 6 (qX qm ((p+tk.getD s 0:Nat):Int))<|zk 7 (qX qm 0)<|zn<|zE<| ?_
    simp only[zP,zI,Act.put,qPx,qPw,qPy];rw[HQ.out];have af:=B.out.lt;obtain⟨K8,U8,O8⟩:=yV (B.out.below I) (UD.out.trans (Upd.of_below I (qP7 af))) (OD.out.below I (qPq _));clear I ap B UD OD af LT;obtain⟨p2,a2⟩:=zB (p+tk.getD s 0);rw[a2]at Z;rw[a2];clear a2;have ao:=zH (zIc R p2 _ w8 K8.out);go_wp2_with fail;(with_reducible refine ao.out.mono ?_);rintro e w9 ⟨rfl,an,hu⟩;have K9:=yT (RD w9 R ⟨a,p2,yA ⟨tg,0,yB⟩,2,tc,yA ⟨cg,0,yB⟩,z,cc,N⟩) an;have U9:=zH (U8.out.trans hu);have aj:=zEl O8.out hu am;clear an hu ao K8 U8 O8;have aa:E<=w9.heap.size:=by have:=U9.out.size;rw[HE.out]at this;exact this
    obtain⟨W,X,b4,a7,a8,P⟩:=zMb aj s za aa;have u:=K9.out.keep (P.block R za);have ae:=zH (Upd.bel U9.out P HE.out am);have ab:=yT (yu b4 E 3 W (q+1) X ((m.take (q+1)).map ival)) (by rw[av.out];exact a8);have x3:=u.c3;have x4:=u.c4;have l3:=u.l3;have l4:=u.l4;simp only at x3 x4 l3 l4;have KK:=zH u;have bq:IntKind.i64.wrap ((N:Int)-1)=(N:Int)-1:=qQa _ ⟨za,za⟩;have br:IntKind.i64.wrap ((z:Int)-1)=(z:Int)-1:=qQa _ ⟨za,za⟩;clear K9 U9 aj a8 P u aa;by_cases a0:s+1=N
    .have a5:q+1=M:=ag.out.1 a0;have bn:((k:Int)==(z:Int)-1)=yH:=by have:=a4.out;have:=HQ.out;simp;omega
     have b1:((s:Int)==(N:Int)-1)=yH:=zq
     go_wp2_with (at_builtin;refine xG rfl (.tmp 48) (.tmp 50) 23 rfl rfl rfl a7 ?_);(with_reducible refine(au.out _ _).mono ?_);rintro e bw ⟨rfl,rfl⟩;go_wp2;go_ret;refine⟨W,X,rfl,?_,?_,ae.out⟩
     .have:=Z.out;rw[a5,<-HM.out]at this;rw[this];exact KK.out
     .have:=ab.out;rw[a5,<-HM.out,qS7]at this;rw[<-HM.out];exact this
    .have b1:((s:Int)==(N:Int)-1)=yI:=zq
     have a5:q+1<M:=by
      have:=ag.out.2;rcases qP8 (q+1) M with h|h
      .exact h
      .exact absurd (this za) a0
     go_wp2_with (at_builtin;refine xG rfl (.tmp 48) (.tmp 50) 23 rfl rfl rfl a7 ?_);go_roundw
     case rel=>exact⟨j+1,X,W,za,by have:=HQ.out;omega,by go_num,by rw[<-HQ.out];rfl,by rw[<-qR3,HQ.out,Z.out];exact KK,by rw[<-qR3,HQ.out];exact ab,ae⟩
     case measure=>exact z8
   .obtain rfl:j=10:=za
    have bk:k+1<z:=by have:=a4.out;omega
    rw[show((10:Nat):Int)=(10:Int)from rfl];go_wp2;go_roundw
    case rel=>exact⟨k+1,mc,mp,za,by go_num,rfl,o,d,b⟩
    case measure=>exact z8
end Bk
namespace Rle
variable {w w':yC} {B b:Nat} {v:yD}
abbrev TB:yE:=120
abbrev TY:yE:=5
theorem qBz:(prog.info? TB).map (·.size)=yA 2:=zf
theorem qHg:liesAt yK prog.depth TB (2/prog.cellsOf TB) 0 TB 1=yH:=zf
theorem qB7:(prog.info? TY).map (fun i=>(i.zero,i.size,i.bytes))=yA (yA (qX qo 0),1,1):=zf
theorem zVi (b:Nat) (w:yC) (c:w.cell? ⟨b,0,yB⟩=yA (qc (yA ⟨b,0,yB⟩))):
  yG yK 140 #[qc (yA ⟨b,0,yB⟩)] w fun e w'=>e=qx (qg #[])/\w'=w:=by
 obtain⟨j,a,_⟩:=Option.map_eq_some_iff.1 qBz;go_enter func140,ntmps140;go_wp2;rw[Lib.run_neq_ptr_same w _ underlying118 a];go_wp2;go_end0;exact⟨rfl,rfl⟩
theorem zS6 (b:Nat) (w:yC) (g:w.cell? ⟨b,0,yB⟩=yA (qc yB)) (c:w.shape? b=yA (TB,2)) (f:w.frozen? ⟨b,0,yB⟩=yI):
  yG yK 140 #[qc (yA ⟨b,0,yB⟩)] w fun e w'=>e=qx (qg #[])/\w'=w.setCell ⟨b,0,yB⟩ (qc (yA ⟨b,0,yB⟩)):=by
 obtain⟨j,d,a⟩:=Option.map_eq_some_iff.1 qBz;go_enter func140,ntmps140;go_wp2;rw[Lib.run_to_unsafe w ⟨b,0,yB⟩ underlying118 underlying318 d (by rw[a];decide) c (Nat.zero_lt_succ 1)];simp only[Result.andThen];rw[Oper.upon_value];go_wp2;rw[run_callFunc_extern func190 zf zf zf (e:=Extern.AbiNoEscape.same) zf];rw[Lib.run_noEscape];simp only[Result.andThen];rw[Oper.upon_value];go_wp2;rw[Lib.run_from_unsafe w ⟨b,0,yB⟩ underlying318 underlying118 d c qHg];simp only[Result.andThen];rw[Oper.upon_value];go_wp2;go_end0;exact⟨rfl,rfl⟩
theorem zCk (B b:Nat) (bs:List yD) (w:yC) (h:Lib.IsBuilder TB TY B b bs w):
  yG yK 140 #[qc (yA ⟨b,0,yB⟩)] w fun e w'=>e=qx (qg #[])/\Lib.BuilderAt TB TY B b (qc (yA ⟨b,0,yB⟩)) bs w'/\yM B w w'/\Lib.OthersKept TY (yA b) w w'/\w.heap.size<=w'.heap.size:=by
 rcases h with h|h
 .refine(zS6 b w h.cell0 h.shape h.frozen0).mono ?_;rintro e w' ⟨rfl,rfl⟩;exact⟨rfl,h.used _,(yR B w).setCell (p:=⟨b,0,yB⟩) h.1 _,(Lib.OthersKept.refl _ _ w).setCell ⟨b,0,yB⟩ rfl _,by simp[World.setCell]⟩
 .refine(zVi b w h.cell0).mono ?_;rintro e w' ⟨rfl,rfl⟩;exact⟨rfl,h,yR B _,Lib.OthersKept.refl _ _ _,qPq _⟩
theorem zIw {e:yE} {n:Nat} {xs:List yD} (h:w.ownsRow B e 1 v n xs):∀g,v.ownBlock=yA g->∃c f,w.heap[g]? =yA (qp c e f):=by
 intro g d;rcases h.2 with⟨rfl,_⟩|⟨g',i,a,rfl,_,b,_⟩
 .simp[Value.ownBlock]at d
 .simp[Value.ownBlock]at d;subst d;exact⟨a,_,b⟩
theorem zAd {o:Obj} (h:w.heap[b]? =yA o):b<w.heap.size:=(qQ7.1 h).1
def Bld (w:yC) (B b:Nat) (l:T):Prop:=Lib.IsBuilder TB TY B b (Lib.byteCells l) w
theorem byteCells_append (l m:T):Lib.byteCells (l++m)=Lib.byteCells l++Lib.byteCells m:=by unfold Lib.byteCells;simp
theorem byteCells_length (l:T):kN (Lib.byteCells l)=kN l:=by unfold Lib.byteCells;simp
theorem byteCells_one (c:UInt8):Lib.byteCells [c]=[qX qo (c.toNat:Int)]:=by unfold Lib.byteCells;rfl
theorem zPk (s:ByteArray):Lib.strCells s=Lib.byteCells s.data.toList:=by unfold Lib.strCells Lib.byteCells;simp
theorem zE7 (B b:Nat) (l:T) (c:UInt8) (w:yC) (h:Bld w B b l) (P:kN l+1<=1000000000) (V:B<=w.heap.size):
  yG yK 74 #[qc (yA ⟨b,0,yB⟩),qX qo (c.toNat:Int)] w fun e w'=>e=qx .nilIface/\Bld w' B b (l++[c])/\yM B w w'/\Lib.OthersKept TY (yA b) w w'/\w.heap.size<=w'.heap.size:=by
 obtain⟨N,hi,G,t,x⟩:=qRv qB7;have n:=byteCells_length l;unfold Bld at h;obtain⟨bs,o⟩:=zB (Lib.byteCells l);rw[o]at h n;have O:kN bs+1<=1000000000:=za
 obtain⟨R,F⟩:=yU n o;clear n o;go_enter func74,ntmps74;go_wp2_with (go_at_call 140;refine(zCk B b bs _ h).mono ?_);rintro e q ⟨rfl,L,m,s,W⟩;obtain⟨I,v,f,a,hne⟩:=L;have c0:q.cell? ⟨b,0,yB⟩=yA (qc (yA ⟨b,0,yB⟩)):=by rw[Lib.cell_of_heap f];rfl
 have c1:q.cell? ⟨b,1,yB⟩=yA v:=by rw[Lib.cell_of_heap f];rfl
 go_wp2_with (at_builtin;refine wpList_append_own _ rfl _ _ 109 rfl B TY N (qX qo 0) 1 1 underlying109 hi G t x rfl qW _ _ _ rfl (a.alloc _) ⟨q,0,yB⟩ 1 1 [qX qo (c.toNat:Int)] rfl rfl ?c1 ?c2 ?c3 ?c4 ?c5 ?_)
 case c1=>
  intro j u z
  match j,z with
  |0,z=>simp at z;subst z;simp[Addr.add]
 case c2=>intro u K;simp at K;subst K;rfl
 case c3=>unfold maxLen;omega
 case c4=>exact za
 case c5=>have:=m.size;simp;omega
 intro v' w2 H y _;have r:b<q.heap.size:=zAd f;have i:w2.heap[b]? =yA (qp #[qc (yA ⟨b,0,yB⟩),v] TB):=by
  rw[y.block b zq (fun e=>hne e.symm),Lib.alloc_old q _ b r];exact f
 have X:w2.cell? ⟨b,0,yB⟩=yA (qc (yA ⟨b,0,yB⟩)):=by rw[Lib.cell_of_heap i];rfl
 have Y:w2.cell? ⟨b,1,yB⟩=yA v:=by rw[Lib.cell_of_heap i];rfl
 have Z:w2.frozen? ⟨b,1,yB⟩=yI:=Lib.frozen_of_heap i 1;obtain⟨g,d,rfl⟩:∃g d,v'=qZ (yA ⟨g,0,yB⟩) (kN bs+1) d:=by
  rcases H.2 with⟨_,h0⟩|⟨g,d,S,hv,_⟩
  .omega
  .exact⟨g,d,hv⟩
 go_wp2;go_ret;refine⟨rfl,qy ?_,?_,((s.alloc _).grown y (zIw (a.alloc _))).setCell ⟨b,1,yB⟩ rfl _,by have:=y.size;simp at this;simp[World.setCell];omega⟩
 .rw[byteCells_append,byteCells_one,F.out];exact Lib.BuilderAt.put (T:=TB) (e:=TY) I i (bs':=bs++[qX qo (c.toNat:Int)]) (by simpa using H) qW
 .exact((m.alloc (by have:=m.size;omega) _).grown y (by have:=m.size;simp;omega) (fun k M=>(a.lt k M).1)).setCell (p:=⟨b,1,yB⟩) I _
theorem zB8 (B b:Nat) (l:T) (s:ByteArray) (w:yC) (h:Bld w B b l) (N:kN l+s.size<=1000000000) (R:B<=w.heap.size):
  yG yK 62 #[qc (yA ⟨b,0,yB⟩),qY s] w fun e w'=>e=qx (qg #[qX qm s.size,.nilIface])/\Bld w' B b (l++s.data.toList)/\yM B w w'/\Lib.OthersKept TY (yA b) w w'/\w.heap.size<=w'.heap.size:=by
 obtain⟨L,hi,x,r,t⟩:=qRv qB7;have f:=byteCells_length l;unfold Bld at h;obtain⟨bs,i⟩:=zB (Lib.byteCells l);rw[i]at h f;have M:kN bs+s.size<=1000000000:=za
 obtain⟨O,u⟩:=yU f i;clear f i;go_enter func62,ntmps62;go_wp2_with (go_at_call 140;refine(zCk B b bs _ h).mono ?_);rintro e y ⟨rfl,I,m,o,S⟩;obtain⟨G,v,c,a,hne⟩:=I;have c0:y.cell? ⟨b,0,yB⟩=yA (qc (yA ⟨b,0,yB⟩)):=by rw[Lib.cell_of_heap c];rfl
 have c1:y.cell? ⟨b,1,yB⟩=yA v:=by rw[Lib.cell_of_heap c];rfl
 go_wp2_with (at_builtin;refine Lib.wpList_append_own_string _ rfl _ _ 109 9 rfl B TY L underlying109 underlying9 hi x r t _ _ _ rfl a s rfl ?c3 ?c4 ?c5 ?_)
 case c3=>unfold maxLen;omega
 case c4=>exact za
 case c5=>have:=m.size;omega
 intro v' w2 z q _;have n:b<y.heap.size:=zAd c;have d:w2.heap[b]? =yA (qp #[qc (yA ⟨b,0,yB⟩),v] TB):=by
  rw[q.block b n (fun e=>hne e.symm)];exact c
 have V:w2.cell? ⟨b,0,yB⟩=yA (qc (yA ⟨b,0,yB⟩)):=by rw[Lib.cell_of_heap d];rfl
 have W:w2.cell? ⟨b,1,yB⟩=yA v:=by rw[Lib.cell_of_heap d];rfl
 have X:w2.frozen? ⟨b,1,yB⟩=yI:=Lib.frozen_of_heap d 1;obtain⟨F,H,j,rfl⟩:∃F H j,v'=qZ F H j:=by
  rcases z.2 with⟨hv,_⟩|⟨g,j,P,hv,_⟩
  .exact⟨_,_,_,hv⟩
  .exact⟨_,_,_,hv⟩
 go_wp2;go_ret2;refine⟨rfl,qy ?_,?_,(o.grown q (zIw a)).setCell ⟨b,1,yB⟩ rfl _,by have:=q.size;simp[World.setCell];omega⟩
 .rw[byteCells_append,<-zPk,u.out];exact Lib.BuilderAt.put (T:=TB) (e:=TY) G d (bs':=bs++Lib.strCells s) (by simpa [Lib.strCells_length]using z) qW
 .exact(m.grown q (by have:=m.size;omega) (fun k K=>(a.lt k K).1)).setCell (p:=⟨b,1,yB⟩) G _
theorem zTw (B b:Nat) (l:T) (w:yC) (h:Bld w B b l):
  yG yK 115 #[qc (yA ⟨b,0,yB⟩)] w fun e w'=>e=qx (qX qm (kN l:Int))/\w'=w:=by
 have:=Tryz.Builder_Len B b _ w h;rw[byteCells_length]at this;exact this
theorem zD0 (B b:Nat) (l:T) (w:yC) (h:Bld w B b l) (a:B<=w.heap.size):
  yG yK 63 #[qc (yA ⟨b,0,yB⟩)] w fun e w'=>e=qx (qY ⟨l.toArray⟩)/\yM B w w'/\Lib.OthersKept TY (yA b) w w':=by
 refine(Tryz.Builder_String_any_k B b l w (Lib.IsBuilderF.of h) a).mono ?_;rintro e w' ⟨c,_,d,f⟩;exact⟨c,d,f⟩
theorem Bld.new (w:yC):Bld (w.alloc (qp #[qc yB,qZ yB 0 0] TB)) w.heap.size w.heap.size []:=
 qz ⟨qPq _,qZ yB 0 0,World.alloc_heap_new w _,World.ownsRow_nil _ _ _ _,by simp[Value.ownBlock]⟩
theorem Bld.lt {l:T} (h:Bld w B b l):b<w.heap.size:=by
 rcases h with h|h
 .exact h.lt
 .exact h.lt
theorem Bld.base {l:T} (h:Bld w B b l):B<=b:=by
 rcases h with h|h
 .exact h.1
 .exact h.1
theorem Bld.block {l:T} (h:Bld w B b l):∃c d,w.heap[b]? =yA (qp c TB d):=by
 rcases h with⟨_,v,a,_⟩|⟨_,v,a,_⟩
 .exact⟨_,_,a⟩
 .exact⟨_,_,a⟩
theorem Bld.keeps {l:T} (h:Bld w B b l) (i:Lib.OthersKept TY (yA b) w w') (j:w.heap.size<=w'.heap.size):KeepsOthers w w':=by
 refine⟨j,fun k o f d=>i k o f ?_ ?_⟩
 .intro e;obtain⟨c,g,a⟩:=h.block;obtain rfl:k=b:=by injection e
  rw[f]at a;obtain rfl:=qPv a;cases d
 .rintro c g rfl;cases d
theorem zDg {c:Nat} {t:yE} (a:Lib.OthersKept TY (yA b) w w') (h:Boxed w c t v) (hne:c≠b) (d:t≠TY):w'.heap[c]? =w.heap[c]? :=by
 rw[a c _ h (fun e=>hne (by injection e)) (fun c' f e=>d (by injection e))];exact h.symm
theorem Bld.kept {l:T} {row:Option Nat} (h:Bld w B b l) (j:w.grownBy w' row) (k:∀r,row=yA r->∃o,w.heap[r]? =yA o/\(∀c f,o≠qp c TB f)/\(∀c f,o≠qp c TY f)):Bld w' B b l:=by
 have one:∀p,Lib.BuilderAt TB TY B b p (Lib.byteCells l) w->Lib.BuilderAt TB TY B b p (Lib.byteCells l) w':=by
  rintro p ⟨q,v,i,a,hne⟩;refine⟨q,v,?_,?_,hne⟩
  .rw[j.block b (zAd i) (fun e=> ?_)]
   .exact i
   .obtain⟨o,d,m,_⟩:=k b e.symm;rw[i]at d;exact m _ _ (qPv d).symm
  .refine a.kept j ?_;rcases hv:v.ownBlock with _|g
   .rcases a.2 with⟨rfl,_⟩|⟨g',t,u,rfl,_,x,_⟩
    .exact qz rfl
    .simp[Value.ownBlock]at hv
   .refine qy fun e=> ?_;obtain⟨c,f,s⟩:=zIw a g hv;obtain⟨o,d,_,n⟩:=k g e.symm;rw[s]at d;exact n _ _ (qPv d).symm
 rcases h with h|h
 .exact qz (one _ h)
 .exact qy (one _ h)
end Rle
namespace Rle
open Go.Shelf
attribute [local go_sem] Oper.semAt_some
def zJd (b:Nat) (A B:yC):Prop:=(∃n,B=A.drewN n)\/∃v,B=A.setCell ⟨b,0,yB⟩ v
theorem zMs (w:yC) (n:Nat):(w.drewN n).heap=w.heap:=rfl
theorem zJd.keeps {b:Nat} {A B:yC} (h:zJd b A B):KeepsOthers A B:=by
 rcases h with⟨n,rfl⟩|⟨v,rfl⟩
 .exact⟨by rw[zMs];exact qPq _,fun k o a _=>by rw[zMs];exact a⟩
 .exact KeepsOthers.setCell _ _ _
def qGq {α:Type} (P:Program) (gf:Nat) (lb:Array yD) (enc:α->yD) (b:Nat) (S:List α) (W:yC):Prop:=
 ∀(l:Nat) (J c:List α->yC->Prop),(∀pre A B,J pre A->zJd b A B->J pre B)->
  (∀pre x a,J pre a->pre++[x]<+:S->YieldAt Fence.wide 1 P l #[enc x] a fun e W'=>
   (e=qx (qh yH)/\J (pre++[x]) W'/\W'.heap[b]? =a.heap[b]?)\/(e=qx (qh yI)/\c (pre++[x]) W'))->
  J [] W->CallsIn Fence.wide 2 P gf (#[.func (.yield l) #[] #[]]++lb) W fun e W'=>(∃v,e=qx v)/\(J S W'\/∃pre,pre<+:S/\c pre W')
def zJ6 {α:Type} (b:Nat) (I:List α->yC->Prop) (a:Code->List α->yC->Prop) (xs:List α) (W:yC):Exit->Act->yC->Prop
 | .normal,_,W'=>KeepsOthers W W'/\W'.heap[b]? =W.heap[b]? /\I xs W'
 | .ret,_,W'=>KeepsOthers W W'/\a .ret xs W'
 |_,_,_=>False
theorem zDt {P:Program} {α:Type} {g:Operand} {p:Tmp} {assign body:Code} {Q:Exit->Act->yC->Prop} {a:Act} {w:yC} {gf:Nat} {lb:Array yD}
  (hg:a.eval g= .func (.func gf) #[] lb) (eg:∀args w,(callFunc gf args).run P w= .ok (.enter gf args) w) (enc:α->yD) (b:Nat) (hb:b<w.heap.size) (S:List α)
  (a7:∀W,yM w w W->qGq P gf lb enc b S W)
  (I:List α->yC->Prop) (Ix:Code->List α->yC->Prop)
  (hI:∀pre W l o o',w.heap.size<=l->W.heap[l]? =yA o->o.isCells=yI->I pre W->I pre (W.putObj l o'))
  (a1:∀c pre W l o o',w.heap.size<=l->W.heap[l]? =yA o->o.isCells=yI->Ix c pre W->Ix c pre (W.putObj l o'))
  (a8:∀pre A B,I pre A->zJd b A B->I pre B) (h0:∀o o',I [] ((w.alloc o).alloc o')) (a₁:α->Act)
  (a2:∀(l:Nat) (x:α) (W:yC) (K:Act->yC->Prop),K (a₁ x) W->
   assign.wpIn (Fence.wide.inRound l) 1 P (Exit.then K (fun _ _ _=>False)) {tmps:=(#[p].zip #[enc x]).foldl (fun t (p,v)=>t.setIfInBounds p v) a.tmps,defers:=[]} W)
  (a4:∀(l:Nat) (pre:List α) (x:α) (W:yC),w.heap.size<W.heap.size->I pre W->pre++[x]<+:S->body.wpIn (Fence.wide.inRound l) 1 P (zJ6 b I Ix (pre++[x]) W) (a₁ x) W)
  (a5:∀(D:Nat) (W:yC),w.heap.size<=D->I S W->W.heap[D]? =yA (qw (yA []))->Q .normal {a with defers:={target:= .collected D,args:= #[]}::a.defers} W)
  (a6:∀(D:Nat) (c:Code) (pre:List α) (W:yC),w.heap.size<=D->pre<+:S->Ix c pre W->W.heap[D]? =yA (qw (yA []))->c.wpIn Fence.wide 3 P Q {a with defers:={target:= .collected D,args:= #[]}::a.defers} W):
  (Code.rangeFunc g #[p] assign body).wpIn Fence.wide 3 P Q a w:=by
 refine wpIn_rangeFunc ?_;intro fn a9;obtain⟨d,f⟩:∃d:LoopState->Option Code->Loop,d=fun st pe=>{state:=st,pending:=pe,fn,tmps:=a.tmps,params:= #[p],assign,body,defers:=w.heap.size}:=⟨_,rfl⟩;obtain⟨W1,m⟩:=zB ((w.alloc (qw (yA []))).alloc (.loop (d .ready yB)));have V:W1.heap[w.heap.size+1]? =yA (.loop (d .ready yB)):=by
  rw[<-m];have:=World.alloc_heap_new (w.alloc (qw (yA []))) (.loop (d .ready yB));rwa[qTt]at this
 have a0:W1.heap[w.heap.size]? =yA (qw (yA [])):=by
  rw[<-m];exact(Below.heap_alloc _ _ _ zm).trans (World.alloc_heap_new w _)
 have O:yM w w W1:=by rw[<-m];exact((yR _ w).alloc (qPq _) _).alloc zm _
 refine⟨w.heap.size+1,[{target:= .collected w.heap.size,args:= #[]}],W1,{target:= .fn (.func gf) lb,args:= #[.func (.yield (w.heap.size+1)) #[] #[]]},W1,gf,
  #[.func (.yield (w.heap.size+1)) #[] #[]]++lb,W1,?_,?_,?_,?_,fun _=>za,?_⟩
 .rw[<-m,f];exact run_enterLoop_outer _ _ _ _ _
 .simp only[resolve,hg];simp[go_sem]
 .intro f' aa;trivial
 .simp[invoke,go_sem,eg]
 .refine(a7 W1 O (w.heap.size+1)
   (fun pre W=>I pre W/\W.heap[w.heap.size+1]? =yA (.loop (d .ready yB))/\W.heap[w.heap.size]? =yA (qw (yA [])))
   (fun pre W=>∃c,Ix c pre W/\W.heap[w.heap.size+1]? =yA (.loop (d .done (yA c)))/\W.heap[w.heap.size]? =yA (qw (yA [])))
   (fun pre A B hs h=>⟨a8 pre A B hs.1 h,h.keeps.same _ _ hs.2.1 rfl,h.keeps.same _ _ hs.2.2 rfl⟩)
   ?_ ⟨by rw[<-m];exact h0 _ _,V,a0⟩).mono ?_
  .rintro pre x W ⟨hi,z,hk⟩ L;have M:w.heap.size+1<W.heap.size:=(qQ7.1 z).1;have hy:=run_yield (P:=P) (args:= #[enc x]) z (by rw[f];rfl);rw[f]at hy;refine⟨fn,_,assign,body,hy,roundIn_of_wpIn a9 (a2 _ x W _ ⟨_,run_beginRound z (by rw[f]),?_⟩)⟩;obtain⟨W2,k⟩:=zB (W.putObj (w.heap.size+1) (.loop {d .ready yB with state:= .busy}));have G:W2.heap[w.heap.size+1]? =yA (.loop {d .ready yB with state:= .busy}):=by rw[<-k];exact World.putObj_heap_same M
   have N:W2.heap[w.heap.size]? =yA (qw (yA [])):=by rw[<-k];exact(World.putObj_heap_other za).trans hk
   have Z:W2.heap[b]? =W.heap[b]? :=by rw[<-k];exact World.putObj_heap_other za
   have Y:w.heap.size<W2.heap.size:=by have:=(qQ7.1 G).1;omega
   have R:I pre W2:=by rw[<-k];exact hI pre W _ _ _ za z rfl hi
   have u:body.wpIn (Fence.wide.inRound (w.heap.size+1)) 1 P _ (a₁ x) W2:=a4 (w.heap.size+1) pre x W2 Y R L;rw[k];refine wpIn_mono u ?_;have F:∀(q:Option Code) (y:yC),KeepsOthers W2 y->
     (Instr.endRound (w.heap.size+1) q).run P y= .ok (qh q.isNone) (y.putObj (w.heap.size+1) (.loop (d (if q.isNone then .ready else .done) q)))/\
     y.heap[w.heap.size+1]? =yA (.loop {d .ready yB with state:= .busy})/\
     (y.putObj (w.heap.size+1) (.loop (d (if q.isNone then .ready else .done) q))).heap[w.heap.size+1]? =yA (.loop (d (if q.isNone then .ready else .done) q))/\
     (y.putObj (w.heap.size+1) (.loop (d (if q.isNone then .ready else .done) q))).heap[w.heap.size]? =yA (qw (yA [])):=fun q y j=>by
    have i:=j.same _ _ G rfl;have:=run_endRound (P:=P) q i;rw[f]at this⊢;exact⟨this,by rw[f]at i;exact i,World.putObj_heap_same (qQ7.1 i).1,(World.putObj_heap_other za).trans (j.same _ _ N rfl)⟩
   rintro e a3 y hp;cases e with
   |normal=>
    obtain⟨j,H,s⟩:=hp;obtain⟨hr,i,n,r⟩:=F yB y j;exact⟨_,_,hr,qz ⟨rfl,⟨hI _ _ _ _ _ za i rfl s,n,r⟩,(World.putObj_heap_other za).trans (H.trans Z)⟩⟩
   |ret=>
    obtain⟨j,s⟩:=hp;obtain⟨hr,i,n,r⟩:=F (yA .ret) y j;exact⟨_,_,hr,qy ⟨rfl,.ret,a1 _ _ _ _ _ _ za i rfl s,n,r⟩⟩
   |exit id=>exact hp.elim
   |goto t=>exact hp.elim
   |panic ch=>exact hp.elim
   |outgrown=>exact hp.elim
  .rintro e W2 ⟨⟨v,rfl⟩,(⟨hi,z,hk⟩|⟨pre,X,c,hi,z,hk⟩)⟩
   .exact⟨yB,_,by have:=run_endLoop (P:=P) z (by rw[f];simp);rw[f]at this;exact this,a5 _ _ (qPq _) (hI _ _ _ _ _ za z rfl hi) ((World.putObj_heap_other za).trans hk)⟩
   .exact⟨yA c,_,by have:=run_endLoop (P:=P) z (by rw[f];simp);rw[f]at this;exact this,a6 _ c pre _ (qPq _) X (a1 _ _ _ _ _ _ za z rfl hi) ((World.putObj_heap_other za).trans hk)⟩
end Rle
namespace Rle
open Go.Shelf
variable {t:ByteArray}
attribute [local go_sem] Oper.semAt_some
@[irreducible] def bs (l:T):ByteArray:=⟨l.toArray⟩
theorem zJ5 (s:ByteArray):bs s.data.toList=s:=by unfold bs;simp
theorem qCh (l:T):(⟨l.toArray⟩:ByteArray)=bs l:=by unfold bs;rfl
theorem zBk (l:T):(bs l).data.toList=l:=by unfold bs;simp
theorem zAl (s:ByteArray):kN s.data.toList=s.size:=by simp
theorem zCh (l:T):(bs l).size=kN l:=by rw[<-zAl,zBk]
theorem zQ6 {s:ByteArray} (h:s.data.toList=t.data.toList):s=t:=by rw[<-zJ5 s,<-zJ5 t,h]
theorem qJ9 (s t:ByteArray):(s++t).data.toList=s.data.toList++t.data.toList:=by simp
theorem qPk (l m:T):bs (l++m)=bs l++bs m:=by apply zQ6;rw[qJ9,zBk,zBk,zBk]
theorem zI0 (s:ByteArray) (i j:Nat):(s.extract i j).data.toList=(s.data.toList.take j).drop i:=by
 rw[ByteArray.data_extract,Array.toList_extract,List.extract_eq_take_drop,List.drop_take]
theorem zNx (l:T) (k:Nat):(bs l).extract 0 k=bs (l.take k):=by
 apply zQ6;rw[zI0,zBk,zBk,qR1]
theorem zT7 (l:T) (k:Nat):(bs l).extract k (bs l).size=bs (l.drop k):=by
 apply zQ6;rw[zI0,zBk,zBk,zCh,qS7]
theorem zLh (s:ByteArray) (k:Nat) (h:k<s.size):s.data.toList[k]'(by rw[zAl];exact h)=s[k]:=rfl
theorem zLo (x y:UInt8):((x.toNat:Int)==(y.toNat:Int))=yJ (x=y):=by
 rw[qSg,qSq,qRm];exact⟨fun h=>UInt8.toNat_inj.1 za,fun h=>by rw[h]⟩
def zHd (b:Nat) (w:yC):Nat:=match w.cell? ⟨b,0,yB⟩with
 |some (qY t)=>t.size
 |_=>0
theorem zGn {b:Nat} {w:yC} {ty:yE} (h:Boxed w b ty (qY t)):zHd b w=t.size:=by unfold zHd;rw[h.cell]
theorem zKu {W:yC} {B:Nat} {t:yE} {v:yD} (h:Boxed W B t v) (n:Nat):Boxed (W.drewN n) B t v:=h
theorem zHs (b:Nat) (s:ByteArray) (hs:s.size<=100000) (W:yC) (am:Boxed W b 9 (qY s)):
  qGq yK 149 #[qc (yA ⟨b,0,yB⟩)] (fun p:T=>qY (bs p)) b (pcs s.data.toList) W:=by
 intro l J Jx hJ hY h0;refine qS8 func149 rfl trivial ?_ rfl;simp only[ntmps149,qQ2,qP4,qQy,Nat.reduceAdd,Nat.reduceSub,qR,qRa,qRb,qRc,qQm,qQs];obtain⟨ab,HJ,HY,H0⟩:=yX am hJ hY h0;clear am hJ hY h0;gi_wp2;gi_loopw [3] (fun v wr=>∃(pre:List T) (r:T),yL (pcs s.data.toList=pre++pcs r)/\kN r<=s.size/\yL (Boxed wr b 9 (qY (bs r)))/\yL (J pre wr))
  (fun _ wr=>zHd b wr)
 case atStart=>exact⟨[],s.data.toList,zH rfl,by rw[zAl];exact qPq _,zH (by rw[zJ5];exact ab.out),H0⟩
 case round=>
  obtain⟨pre,r,N,b3,w,a5⟩:=hrel;have H:=w.out.cell;have ag:=w.out.frozen;cases r with
  |nil=>
   have he:bs []=(⟨#[]⟩:ByteArray):=by unfold bs;rfl
   rw[he]at H;clear he;gi_wp2;go_end0;exact⟨⟨_,rfl⟩,qz (by have h:=N.out;rw[zB6,qQv]at h;rw[h];exact a5.out)⟩
  |cons x r=>
   obtain⟨t,ht⟩:=zB (bs (x::r));have n:t.size=kN (x::r):=by rw[<-ht,zCh]
   have aq:t.toList.isEmpty=yI:=by rw[qTa,<-ht,zBk];rfl
   have g:∀k (h:k<t.size) (y:k<kN (x::r)),t[k]=(x::r)[k]:=by
    intro k h y;subst ht;rw[<-zLh (bs (x::r)) k h];simp only[zBk]
   have a:0<t.size:=by rw[n];simp
   have an:t.size<=100000:=by rw[n];omega
   obtain⟨M,hM,ar,au,K⟩:=Kit.zJ3 t.size 255 255 rfl;have av:min (t.size:Int) 255=(M:Int):=by have:=K.out;omega
   rw[ht]at H;have a0:t[0]'a=x:=g 0 a zm;obtain⟨S,HT,o,L⟩:=yX a0 ht n g;clear ht n g a0;obtain⟨wo,rfl⟩:∃wo:yC,wo=wr:=⟨_,rfl⟩;gi_wp2;gi_loopw [3] (fun v wr=>∃k:Nat,1<=k/\k<=M/\v=qX qm k/\yL ((x::r).take k=yP k x)/\yL (∃m,wr=wo.drewN m))
    (fun v _=>256-(intOf v).toNat)
   case atStart=>exact⟨1,qPq _,by have:=K.out;omega,rfl,zH zm,zH ⟨0,by simp[World.drewN]⟩⟩
   case round=>
    obtain⟨k,a2,b1,rfl,I,hw⟩:=hrel;obtain⟨m0,d⟩:=hw.out;have j:Boxed wr b 9 (qY t):=by rw[d,<-HT.out];exact zKu w.out m0
    have aj:=zH j;have ah:=j.cell;have ad:=j.frozen;have X:=HJ.out pre wo wr a5.out (qz ⟨m0,d⟩);have ae:=zH X;clear j d X;have j0:(0:Int)<=(k:Int):=za
    have j1:(0:Int)<=(0:Int):=za
    have j2:(0:Int)<(t.size:Int):=za
    have P:(∃h:k<t.size,k<M/\t[k]=t[0]'a)\/(¬k<M/\zAi (x::r)=k)\/(∃h:k<t.size,k<M/\¬t[k]=t[0]'a/\zAi (x::r)=k):=by
     have hl:=o.out;have hm:=K.out;by_cases z:k<M
     .have y:k<t.size:=za
      by_cases q:t[k]=t[0]'a
      .exact qz ⟨y,z,q⟩
      .refine qy (qy ⟨y,z,q,zJl x r k a2 za za I.out (qy (qy ⟨za,?_⟩))⟩);rw[<-L.out k y za];rw[S.out]at q;exact q
     .refine qy (qz ⟨z,zJl x r k a2 za za I.out ?_⟩);by_cases h4:k=255
      .exact qz h4
      .exact qy (qz za)
    rcases P with⟨y,z,q⟩|c
    .have O:=zLo t[k] (t[0]'a);rw[qQ q]at O;have j3:(k:Int)<(t.size:Int):=za
     have G:(x::r).take (k+1)=yP (k+1) x:=by
      have hl:k<kN (x::r):=by have:=o.out;omega
      rw[qQp hl,I.out,<-L.out k y hl,q,S.out,qUc]
     have ac:=zH G;clear q G;gi_wp2;gi_quiet (fail);gi_wp2;go_roundw
     case rel=>
      obtain⟨m0,d⟩:=hw.out;exact⟨k+1,za,za,by go_num,ac,zH ⟨m0+nq,by rw[d,World.drewN_drewN]⟩⟩
     case measure=>exact qV
    .have f:zAi (x::r)=k:=by
      rcases c with⟨_,h⟩|⟨_,_,_,h⟩<;>exact h
     have b2:k<=kN (x::r):=by have:=o.out;omega
     have u:t.extract 0 k=bs ((x::r).take k):=by rw[<-HT.out,zNx]
     have a8:t.extract k t.size=bs ((x::r).drop k):=by rw[<-HT.out,zT7]
     have hp:=N.out;rw[zBq (x::r) zm,f]at hp;obtain⟨HP,ao⟩:=yU hp f;have j4:(k:Int)<=(t.size:Int):=za
     have a1:=zH a8;have R:yL ((¬k<M)\/(∃h:k<t.size,k<M/\¬t[k]=t[0]'a)):=by
      rcases c with⟨h,_⟩|⟨y,z,q,_⟩
      .exact qz h
      .exact qy ⟨y,z,q⟩
     have a6:=zH u;clear hp f c a8 u;rcases R.out with h|⟨y,z,q⟩
     all_goals
      try have O:=zLo t[k] (t[0]'a)
      try rw[qP1 q]at O
      try have j3:(k:Int)<(t.size:Int):=za
      try clear q
      gi_wp2;gi_quiet (fail);obtain⟨W1,i⟩:=zB (wr.drewN nq);have B:Boxed W1 b 9 (qY t):=by rw[<-i];exact zKu aj.out nq
      have a3:J pre W1:=by rw[<-i];exact HJ.out pre _ _ ae.out (qz ⟨nq,rfl⟩)
      have V:zHd b wo=t.size:=by rw[zGn w.out,HT.out]
      rw[i];have ax:=B.cell;have az:=B.frozen;obtain⟨af,ai⟩:=yU B V;have ap:=a6;have u:=a6.out;obtain⟨fn,tmps,assign,body,hy,hR⟩:=HY.out pre ((x::r).take k) W1 a3 (by rw[HP.out];exact⟨pcs ((x::r).drop k),zm⟩);clear i B V a3 ah ad H ag;gi_wp2;refine hR.mono ?_;rintro e W3 (⟨rfl,a7,Y⟩|⟨rfl,aa⟩)
      .have F:Boxed W3 b 9 (qY t):=Y.trans af.out;have ay:=F.cell;have b0:=F.frozen;have a9:=F.set (qY (t.extract k t.size));have a4:=HJ.out _ W3 _ a7 (qy ⟨qY (t.extract k t.size),rfl⟩);obtain⟨Z,ak⟩:=yU a9 a4;clear F a9 a4 Y a7 u;gi_wp2;go_roundw
       case rel=>
        refine⟨pre++[(x::r).take k],(x::r).drop k,zH (by rw[HP.out];simp),by rw[qQo];omega,?_,ak⟩;rw[<-a1.out];exact Z
       case measure=>
        rw[zGn Z.out,ai.out,a1.out,zCh,qQo];have:=o.out;omega
      .gi_wp2;refine qP5 (qSx rfl _ _ _) rfl ?_;exact⟨⟨_,rfl⟩,qy ⟨_,by rw[HP.out];exact⟨pcs ((x::r).drop k),zm⟩,aa⟩⟩
end Rle
namespace Rle
open Go.Shelf
variable {b l c B:Nat} {w w' A:yC} {v:yD} {o:Obj}
attribute [local go_sem] Oper.semAt_some
theorem zBw {k:IntKind} {a b:Int} (h:a=b):Ending.returned (qX k a)=qx (qX k b):=by rw[h]
theorem zQi {a b:Bool} (h:a=b):Ending.returned (qh a)=qx (qh b):=by rw[h]
theorem zHt (s:ByteArray) (w:yC):
  yG yK 73 #[qY s] w fun e w'=>e=qx (.func (.func 149) #[] #[qc (yA ⟨w,0,yB⟩)])/\w.alloc (qp #[qY s] 9)=w':=by
 go_enter func73,ntmps73;go_wp2;go_ret;exact⟨rfl,rfl⟩
theorem zH3 (n:Nat) (a:n<=1000) (w:yC):
  yG yK 147 #[n] w fun e w'=>e=qx (qX qm (zAv n:Int))/\w=w':=by
 by_cases h:n<4
 .have e:zAv n=n:=by unfold zAv;rw[qPr h]
  rw[e];clear e;go_enter func147,ntmps147;go_wp2;go_ret;exact⟨rfl,rfl⟩
 .have e:zAv n=5:=by unfold zAv;rw[qPt h]
  rw[e];clear e;go_enter func147,ntmps147;go_wp2;go_ret;exact⟨rfl,rfl⟩
theorem zJq (s x:T) (h:x∈pcs s):1<=kN x/\kN x<=255:=by
 revert h;refine zEi (M:=fun s=>x∈pcs s->1<=kN x/\kN x<=255) (fun h=>by rw[zB6]at h;cases h) (fun s a d h=> ?_) s;rw[zBq s a,qP6]at h;rcases h with rfl|h
 .rw[zDo];exact⟨zBz s a,zEj s⟩
 .exact d h
theorem zGy {s:T} {pre:List T} {x:T} (h:pre++[x]<+:pcs s):kN x<=255/\1<=kN x/\lens pre+zAv (kN x)<=Len s/\(pre.map List.length).sum+kN x<=kN s:=by
 obtain⟨a,d⟩:=zQt _ s h;obtain⟨e,f⟩:=zJq s x (h.subset zm);refine⟨f,e,?_,?_⟩
 .rw[zG0]at a;unfold lens at*;simpa using a
 .simpa using d
theorem zGm (pre:List T) (x:T):lens (pre++[x])=lens pre+zAv (kN x):=by rw[zG0];unfold lens;simp
structure Var (W:yC) (b:Nat) (v:yD):Prop where
 cell:W.cell? ⟨b,0,yB⟩=yA v
 free:W.frozen? ⟨b,0,yB⟩=yI
theorem Var.new (w:yC) (v:yD) (t:yE):Var (w.alloc (qp #[v] t)) w.heap.size v:=⟨zm,zm⟩
theorem Var.alloc (h:Var w b v) (o:Obj):Var (w.alloc o) b v:=
 ⟨by rw[qRg (w:=w) (a:=⟨b,0,yB⟩)];exact h.cell;exact Lib.alloc_old w o b (qQk h.cell),
  by rw[qTr (w:=w) (a:=⟨b,0,yB⟩)];exact h.free;exact Lib.alloc_old w o b (qQk h.cell)⟩
theorem Var.of_block (h:Var w b v) (e:w'.heap[b]? =w.heap[b]?):Var w' b v:=
 ⟨by rw[qRg (w:=w) (a:=⟨b,0,yB⟩) e];exact h.cell,by rw[qTr (w:=w) (a:=⟨b,0,yB⟩) e];exact h.free⟩
theorem Var.put (h:Var w b v) (g:Obj) (e:w.heap[l]? =yA o) (f:o.isCells=yI):Var (w.putObj l g) b v:=by
 refine h.of_block (World.putObj_heap_other ?_);rintro rfl;obtain⟨i,a,d⟩:=cells_of_cell h.cell;rw[e]at a;obtain rfl:=qPv a;rw[f]at d;cases d
theorem Var.zLc (h:Var w b v) (a:zJd c w w') (hne:b≠c):Var w' b v:=by
 rcases a with⟨n,rfl⟩|⟨u,rfl⟩
 .exact h.of_block rfl
 .exact h.of_block (Below.heap_setCell _ _ _ _ hne)
theorem Var.set (h:Var w b v) (u:yD):Var (w.setCell ⟨b,0,yB⟩ u) b u:=
 ⟨qRj _ _ _ h.cell,by rw[qSw];exact h.free⟩
theorem Var.other (h:Var w b v) (u:yD) (hne:b≠c):Var (w.setCell ⟨c,0,yB⟩ u) b v:=h.zLc (qy ⟨u,rfl⟩) hne
theorem Var.lt (h:Var w b v):b<w.heap.size:=qQk h.cell
theorem below_drewN {D:Nat} (h:yM D w w') (n:Nat):yM D w (w'.drewN n):=h.trans ⟨rfl,rfl,rfl,qPq _,fun _ _=>rfl⟩
theorem zIh {C:yC} (h:yM B w A) (d:zJd b A C) (a:B<=b):yM B w C:=by
 rcases d with⟨n,rfl⟩|⟨u,rfl⟩
 .exact below_drewN h n
 .exact h.setCell (p:=⟨b,0,yB⟩) a _
theorem zAu (a:Obj) (h:yM B w A) (g:A.heap[l]? =yA o) (d:B<=l) (f:B<=A.heap.size):yM B w (A.putObj l a):=
 h.trans ((yR B A).grown (grownBy_putObj' A l a) f (fun k e=>by cases e;exact d))
theorem zVz (s:ByteArray) (S:s.size<=100000) (w:yC):
  yG yK 68 #[qY s] w fun e w'=>e=qx (qX qm (Len s.data.toList:Int))/\yM w w w':=by
 refine(qQi (n:=3)).1 ?_;refine callsIn_of_wp_marks func68 rfl trivial ?_ rfl;simp only[ntmps68,qQ2,qP4,qQy,Nat.reduceAdd,Nat.reduceSub,qR,qRa,qRb,qRc,qQm,qQs];gi_wp2_with fail;refine⟨trivial,(qQi.2 (zHt s _)).mono ?_⟩;rintro e w1 ⟨rfl,rfl⟩;gi_wp2;have hv:=(Var.new w (qX qm 0) 3).alloc (qp #[qY s] 9);have a:=Boxed.new (w.alloc (qp #[qX qm 0] 3)) 9 (qY s);obtain⟨F,b⟩:=zB ((w.alloc (qp #[qX qm 0] 3)).alloc (qp #[qY s] 9));have a1:F.heap.size=w.heap.size+2:=by rw[<-b];simp
 have g:yM w w F:=by rw[<-b];exact((yR _ w).alloc (qPq _) _).alloc zm _
 rw[b]at hv a⊢;rw[qTt]at a;obtain⟨y,j,k⟩:=yV hv a g;have d:=(zBu s.data.toList).1;rw[zAl]at d;have V:Len s.data.toList<=125000:=za
 have L:w.heap.size≠w.heap.size+1:=za
 clear hv a g b d;refine zDt (gf:=149) (lb:= #[qc (yA ⟨w.heap.size+1,0,yB⟩)]) rfl (enters_of func149 zf rfl) (fun p:T=>qY (bs p)) (w.heap.size+1) za (pcs s.data.toList)
  (fun W P=>zHs _ s S W ((P.block _ za).trans j.out))
  (fun pre W=>Var W w.heap.size (qX qm (lens pre:Int))/\yM w w W/\F.heap.size<=W.heap.size)
  (fun _ _ _=>False)
  (fun pre W l o z hl q I hi=>⟨hi.1.put z q I,zAu z hi.2.1 q za za,by rw[World.putObj];simpa using hi.2.2⟩)
  (fun _ _ _ _ _ _ _ _ _ h=>h)
  (fun pre A B hi q=>⟨hi.1.zLc q L,zIh hi.2.1 q za,qP2 hi.2.2 q.keeps.size⟩)
  (fun o z=>⟨(y.out.alloc o).alloc z,(k.out.alloc za o).alloc zq z,zq⟩)
  (fun x=>{tmps:= #[qY s,yN,qc (yA ⟨w,0,yB⟩),qY (bs x),qY s,.func (.func 149) #[] #[qc (yA ⟨w.heap.size+1,0,yB⟩)],qY (bs x),yN,yN,yN,yN,yN,yN],defers:=[]}) ?assign ?body ?done ?stop
 case assign=>
  intro l x W K H;gi_wp2;exact H
 case body=>
  rintro l pre x W a0 ⟨hv,G,M⟩ i;obtain⟨f1,f2,N,O⟩:=zGy i;have I:=hv.cell;have R:=hv.free;have X:=zCh x;have y:=zH hv;have Y:lens pre<=125000:=za
  have Z:=zTl (kN x);clear N O hv;gi_wp2;gi_region_with ((refine⟨trivial,?_⟩;gi_at_call 147;refine(CallsIn.inRound l (qQi.2 (zH3 (kN x) za _))).mono ?_;rintro e w' ⟨rfl,rfl⟩))
  all_goals
   gi_wp2;have u:IntKind.i64.wrap ((lens pre:Int)+(zAv (kN x):Int))=(lens pre:Int)+(zAv (kN x):Int):=qQa _ za;rw[u];have r:=(y.out.set (qX qm ((lens pre:Int)+(zAv (kN x):Int)))).zLc (c:=w.heap.size+1) (qz ⟨1,rfl⟩) L;refine⟨?_,?_,?_,?_,?_⟩
   .exact(KeepsOthers.setCell _ _ _).trans (KeepsOthers.drew _)
   .exact(Below.heap_setCell _ _ _ _ (qQ4 L))
   .rw[zGm,qTs];exact r
   .exact(G.setCell (p:=⟨w,0,yB⟩) (qPq _) _).drew
   .simp[World.setCell];exact M
 case done=>
  rintro D W hD ⟨hv,G,M⟩ H;have I:=hv.cell;have R:=hv.free;have y:=zH hv;clear hv;gi_wp2;have f:=(KeepsOthers.setCell W ⟨w,0,yB⟩ (qX qm (lens (pcs s.data.toList):Int))).same D _ H rfl;refine⟨zm,qz ⟨_,_,rfl,run_takeDeferred f,?_⟩⟩;have t:=(y.out.set (qX qm (lens (pcs s.data.toList):Int))).put (qw yB) f rfl;have m:=t.cell;refine⟨qX qm (Len s.data.toList:Int),?_,rfl,?_⟩
  .rw[<-zQ7];simp[results,f68,go_sem,m]
  .exact zAu _ (G.setCell (p:=⟨w,0,yB⟩) (qPq _) _) f za (by simp[World.setCell];omega)
 case stop=>
  rintro D c pre W _ _ h _;exact h.elim
end Rle
end Go.Proofs.YtppnakkaljbmbaaGreatDoor
