/- Steps of a proof; no condition beyond what each states. -/
import Derived.Test.YtppnakkaljbmbaaGreatDoorZX00
import Derived.RangeFuncCalls
import Derived.Test.YtppnakkaljbmbaaGreatDoorZX06
set_option linter.unusedVariables false
set_option linter.unusedSimpArgs false
set_option maxRecDepth 100000
set_option maxHeartbeats 8000000
open List renaming length->kG
open Go.Proofs.YtppnakkaljbmbaaGreatDoor.Kit renaming zAg->yh,Own'->yj,zAw->xG
open Go.RowKit
open Go.Proofs.Tryz
open Go.Value renaming int->qV,slice->qX,pointer->qY,tuple->qZ,bool->qc
open Go.IntKind renaming i64->qj
open Go.Obj renaming cells->qm
open Go.Ending renaming returned->qp
open Option renaming some->qw,none->qx
open Go renaming World->qy,Value->qz,TypeId->yA,Addr->yB,Calls->yC,undef->yJ
open Bool renaming true->yD,false->yE
open Go.Proofs.Tryz renaming prog->yG
open Go.RowKit renaming Hid->yH,Below->yI
open Go.RowKit.Below renaming refl->yN
namespace Go.Proofs.YtppnakkaljbmbaaGreatDoor
namespace Kit
section
variable {P:Program} {ops:Array Oper} {Q:Exit->Act->qy->Prop} {md:Region.Mode}
theorem zSk {n:Nat} {row:String} {args:Array qz} {w:qy} {R:qz->qy->Prop} (l:Nat) (h:Rows P row args w R):RowsIn (Fence.wide.inRound l) n P row args w R:=by
 intro c a _;obtain⟨v,w',r,s⟩:=h c a;exact⟨v,w',r,stepsIn_wide.2 s⟩
def zDy (Q:Exit->Act->qy->Prop):Exit->Act->qy->Prop
 | .outgrown,_,_=>False
 |e,a,w=>Q e a w
theorem zGa:¬LetsOut (zDy Q):=fun⟨_,_,h⟩=>h
theorem qCo (l n:Nat) {o:Oper} {a:Act} {K:Act->qy->Prop}:∀{r:Result Next},o.upon P a K (zDy Q) r->o.uponIn (Fence.wide.inRound l) n P a K Q r
 | .ok (.value v) w',h=>h
 | .ok .skip w',h=>h
 | .ok (.defer d) w',h=>h
 | .ok (.enter f args) w',h=>⟨(fun hd=>by cases hd),CallsIn.inRound l (qQj.2 (Calls.mono h (fun e g b=>by
   cases e with
   |returned v=>exact b
   |panicked c=>exact b
   |outgrown=>exact(zGa b).elim)))⟩
 | .ok (.row row args) w',h=>⟨(fun hd=>by cases hd),zSk l h⟩
 | .ok (.round _ _ _ _ _) w',h=>h.elim
 | .halt (.panic v) w',h=>h
theorem qHd (l n:Nat) {o:Oper} {a:Act} {w:qy} {K:Act->qy->Prop} (hd:∀c,o.op≠ .defer c) (h:Oper.wp P o a w K (zDy Q)):o.wpIn (Fence.wide.inRound l) n P a w K Q:=by
 unfold Oper.wpIn;refine⟨fun _ _=>trivial,?_⟩;rw[Oper.semAt_plain _ _ _ hd];exact qCo l n h
theorem zMx (l n:Nat) (hd:∀(i:Nat) (o:Oper),ops[i]? =qw o->∀c,o.op≠ .defer c):∀(d:Nat) (e:Array Bool) (a:Act) (w:qy),wpAny P md ops (zDy Q) d e a w->wpAnyIn (Fence.wide.inRound l) n P md ops Q d e a w
 |0,_,_,_,h=>h
 |d+1,e,a,w,h=>by
  refine⟨h.1,fun i hi=> ?_⟩;have b:=h.2 i hi;unfold wpOp at b;unfold wpOpIn;cases ho:ops[i]? with
  |none=>rw[ho]at b;exact zMx l n hd d _ _ _ b
  |some o=>
   rw[ho]at b;simp only at b⊢;split at b
   ·next hw=>rw[qPr hw];exact Oper.wpIn_mono (fun a w=>zMx l n hd d _ a w) (qHd l n (hd i o ho) (b.resolve_right (fun h=>zGa h.2)))
   ·next hw=>rw[qPt hw];exact⟨fun _ _=>trivial,zMx l n hd d _ _ _ b⟩
def zJu (ops:Array Oper):Bool:=ops.all fun o=>match o.op with
 | .defer _=>false
 |_=>true
theorem zKq {f l n:Nat} {a:Act} {w:qy} (e:P.follows .mixedOrders=yD) (hd:zJu ops=yD) (h:wpAny P .any ops (zDy Q) ops.size (Array.replicate ops.size yE) a w.drew):(Code.region f ops yD).wpIn (Fence.wide.inRound l) n P Q a w:=by
 refine wpIn_region_any e (zMx l n (fun i o hi c d=> ?_) _ _ _ _ h);have b:=(qUf.1 hd) o (Array.mem_of_getElem? hi);rw[d]at b;cases b
theorem zRj {S:qy->Prop} {d l n:Nat} {a:Act} {w:qy} (c:P.follows .mixedOrders=yD) (hd:zJu ops=yD) (b:S w.drew) (h:S w.drew->wpAnyH P .any ops (zDy Q) S ops.size (Array.replicate ops.size yE) a w.drew):(Code.region d ops yD).wpIn (Fence.wide.inRound l) n P Q a w:=
 zKq c hd (wpAny_of_held _ _ _ _ (h b))
theorem zX6 (i:Nat) {d:Nat} {c:Array Bool} {a:Act} {w w':qy} {ty:yA} {x y:Operand} {g:yB} {v:qz} (j:Region.ready md ops c=[i])
  (b:(ops[i]?).map (fun o=>(o.op,o.dst))=qw (.store ty x y,qx)) (e:(ops[i]?).map (fun o=>Region.wanted o (yielded ops a.tmps))=qw yD)
  (k:a.eval x=qY (qw g)) (l:a.eval y=v) (f:(storeVar ty g v).run P w= .ok () w') (h:wpAny P md ops Q d (c.setIfInBounds i yD) a w'):wpAny P md ops Q (d+1) c a w:=by
 cases hi:ops[i]? with
 |none=>rw[hi]at b;cases b
 |some o=>
  rw[hi]at b e;simp only[qRs,qTy,Prod.mk.injEq]at b e;refine zJ1 i hi j e ?_;unfold Oper.wp execOp;simp only[b.1,k,l,Instr.storeAt,Instr.sureAddr,qRk,qSp,qS3,f];show wpAny P md ops Q d _ (a.put o.dst yJ) w';rw[b.2];exact h
theorem zX8 {S:qy->Prop} (i:Nat) {e:Nat} {c:Array Bool} {a:Act} {w:qy} {ty:yA} {x:Operand} {d:Option Tmp} {g:yB} {v:qz} (n:Region.ready md ops c=[i])
  (b:(ops[i]?).map (fun o=>(o.op,o.dst))=qw (.load ty x,d)) (f:(ops[i]?).map (fun o=>Region.wanted o (yielded ops a.tmps))=qw yD)
  (p:a.eval x=qY (qw g)) (m:(loadVar ty g).run P w= .ok v w) (k:S w) (h:wpAnyH P md ops Q S e (c.setIfInBounds i yD) (a.put d v) w):wpAnyH P md ops Q S (e+1) c a w:=by
 refine wpAnyH_all n zm (fun j l=> ?_);obtain rfl:=qRm.1 l;unfold wpOp;cases hi:ops[j]? with
 |none=>rw[hi]at b;cases b
 |some o=>
  rw[hi]at b f;simp only[qRs,qTy,Prod.mk.injEq]at b f;simp only[f,qRw];left;unfold Oper.wp execOp;simp only[b.1,p,Instr.loadAt,Instr.sureAddr,qRk,qSp,qS3,m];show S w/\wpAnyH P md ops Q S e _ (a.put o.dst v) w;rw[b.2];exact⟨k,h⟩
theorem zH9 {S:qy->Prop} (i:Nat) {d:Nat} {c:Array Bool} {a:Act} {w w':qy} {ty:yA} {x y:Operand} {g:yB} {v:qz} (m:Region.ready md ops c=[i])
  (b:(ops[i]?).map (fun o=>(o.op,o.dst))=qw (.store ty x y,qx)) (e:(ops[i]?).map (fun o=>Region.wanted o (yielded ops a.tmps))=qw yD)
  (n:a.eval x=qY (qw g)) (p:a.eval y=v) (k:(storeVar ty g v).run P w= .ok () w') (f:S w') (h:S w'->wpAnyH P md ops Q S d (c.setIfInBounds i yD) a w'):wpAnyH P md ops Q S (d+1) c a w:=by
 refine wpAnyH_all m zm (fun j l=> ?_);obtain rfl:=qRm.1 l;unfold wpOp;cases hi:ops[j]? with
 |none=>rw[hi]at b;cases b
 |some o=>
  rw[hi]at b e;simp only[qRs,qTy,Prod.mk.injEq]at b e;simp only[e,qRw];left;unfold Oper.wp execOp;simp only[b.1,n,p,Instr.storeAt,Instr.sureAddr,qRk,qSp,qS3,k];show S w'/\wpAnyH P md ops Q S d _ (a.put o.dst yJ) w';rw[b.2];exact⟨f,h f⟩
end
end Kit
namespace Wg
open Bt Zr Front
variable {w w':qy} {R c B n g:Nat} {a:Option yB} {l:List (Nat×Nat)} {e:yA}
def tv (p:Nat×Nat):qz:= .agg #[qV qj (p.1:Int),qV qj (p.2:Int)]
def TL:Kit.Lay (Nat×Nat) where
 k:=2
 pos:=za
 cl:=fun p=>[qV qj (p.1:Int),qV qj (p.2:Int)]
 len:=fun _=>rfl
 one:=fun p v hv=>by
  simp at hv;rcases hv with rfl|rfl<;>rfl
theorem zPg (p q:Nat×Nat) (w:qy):
  yC yG 176 #[tv p,tv q] w fun e w'=>e=qp (qc (lq p q))/\yI w.heap.size w w':=by
 obtain⟨a,b⟩:=p;obtain⟨c,d⟩:=q;unfold tv;have m:yI w.heap.size w ((w.alloc (qm #[qV qj (a:Int),qV qj (b:Int)] 295)).alloc (qm #[qV qj (c:Int),qV qj (d:Int)] 295)):=
  ((yN _ _).alloc (qPq _) _).alloc zm _
 obtain⟨B,k⟩:=zB w.heap.size;obtain⟨j,g⟩:=zB (w.alloc (qm #[qV qj (a:Int),qV qj (b:Int)] 295));have x:j.heap.size=B+1:=by rw[<-g,zA,k]
 obtain⟨s,f⟩:=zB (j.alloc (qm #[qV qj (c:Int),qV qj (d:Int)] 295));have t:s.heap[B]? =qw (qm #[qV qj (a:Int),qV qj (b:Int)] 295):=by
  rw[<-f,Lib.alloc_old j _ B za,<-g,<-k];show(w.heap.push _)[w.heap.size]? =_;simp
 have u:s.heap[B+1]? =qw (qm #[qV qj (c:Int),qV qj (d:Int)] 295):=by
  rw[<-f,<-x];show(j.heap.push _)[j.heap.size]? =_;simp
 rw[g,f,k]at m;obtain⟨z,F,_,_⟩:=zAf t;obtain⟨G,H,_,_⟩:=zAf u;have HB:=zH m;rw[k];clear m t u;obtain⟨r,o⟩:=zB (lq (a,b) (c,d));rw[o];have i:=zH o;clear o;rcases qTn a c with h|h|h
 ·have hd:decide (a<c)=yD:=qP9 h;have e:r=yD:=by rw[<-i.out,zNj];exact .inl h
  subst e;clear i h;go_enter func176,ntmps176;go_wp2;go_ret;exact⟨rfl,HB.out⟩
 ·subst h;have hd:decide (a<a)=yE:=qP1 za;have e:decide (b<d)=r:=by rw[<-i.out];unfold lq;simp
  clear i;go_enter func176,ntmps176;go_wp2;go_ret;exact⟨rfl,HB.out⟩
 ·have hd:decide (a<c)=yE:=qP1 za;have y:¬a=c:=za
  have e:r=yE:=by rw[<-i.out,zH1];exact .inl h
  subst e;clear i h;go_enter func176,ntmps176;go_wp2;go_ret;exact⟨rfl,HB.out⟩
abbrev TT:yA:=295
abbrev TQ:yA:=299
abbrev QF:qz:= .func (.func 176) #[] #[]
theorem qHe:Kit.zVx yG 297 TT TL.k 16:=⟨underlying297,.agg #[qV qj 0,qV qj 0],zf,rfl⟩
theorem qHi:(prog.info? TT).map (·.size)=qw TL.k:=zf
theorem szT:∀w,(sizeOf TT).run yG w= .ok 2 w:=fun w=>sizeOf295 w
theorem qBq:∀w,(isAgg TT).run yG w= .ok yD w:=fun w=>zf
structure Qu (w:qy) (R:Nat) (a:Option yB) (c:Nat) (l:List (Nat×Nat)):Prop where
 blk:w.heap[R]? =qw (qm #[qX a (kG l) c,QF] TQ)
 own:yj TL w (R+1) TT a (kG l) c l
theorem Qu.lt (h:Qu w R a c l):R<w.heap.size:=zAd h.blk
structure StT (w w':qy) (R:Nat):Prop where
 old:∀k,k<w.heap.size->k≠R->(∀cs f,w.heap[k]?≠qw (qm cs TT f))->w'.heap[k]? =w.heap[k]?
 below:yI R w w'
theorem StT.refl (w:qy) (R:Nat):StT w w R:=⟨fun k _ _ _=>rfl,yN _ _⟩
theorem StT.trans {b:qy} (h:StT w w' R) (g:StT w' b R):StT w b R:=by
 refine⟨fun k d i j=> ?_,h.below.trans g.below⟩;have m:=h.old k d i j;rw[g.old k (qQv d h.below.size) i (fun o f=>by rw[m];exact j o f),m]
theorem StT.of_below (b:yI w.heap.size w w') (f:R<=w.heap.size):StT w w' R:=⟨fun k d _ _=>b.block k d,b.mono f⟩
theorem Qu.below {D:Nat} (h:Qu w R a c l) (b:yI D w w') (d:D=w.heap.size):Qu w' R a c l:=by
 subst d;exact⟨(b.block R h.lt).trans h.blk,h.own.below b (qPq _)⟩
theorem zJt {t:yA} {j:Array qz} {f:Nat×Nat} (h:yj TL w B e a n c l) (k:w.heap[R]? =qw (qm j t f)) (m:t≠e):
  (Value.slice a n c).ownBlock≠qw R:=by
 intro i;obtain⟨_,d⟩:=h;rcases d with⟨d,_⟩|⟨g,o,p,hv,q,b,_⟩
 ·injection d with d _ _
  subst d;simp[Value.ownBlock]at i
 ·injection hv with ha _ hc
  subst ha;simp[Value.ownBlock]at i;subst i;rw[k]at b;injection b with b
  injection b with _ b _
  exact m b
theorem zE3 (h:yj TL w B e (qw ⟨g,0,qx⟩) n c l):B<=g/\n<=c/\∃b f,w.heap[g]? =qw (qm b e f):=by
 rcases h.2 with⟨d,_⟩|⟨g',m,o,hv,i,j,k,_⟩
 ·cases d
 ·injection hv with hv _ hc
  injection hv with hv
  injection hv with hv
  subst hv hc;exact⟨i,k,_,_,j⟩
theorem Qu.set (h:Qu w R (qw ⟨g,0,qx⟩) c l) (i:Nat) (hi:i<kG l) (x:Nat×Nat):
  (storeVar TT ⟨g,i*2,qx⟩ (tv x)).run yG w= .ok () (w.setCells g (i*2) (TL.cl x))/\Qu (w.setCells g (i*2) (TL.cl x)) R (qw ⟨g,0,qx⟩) c (l.set i x)/\StT w (w.setCells g (i*2) (TL.cl x)) R:=by
 have b:=h.own.set qHi i hi x;have o:=zE3 h.own;have a:R≠g:=za
 refine⟨b.1,⟨?_,?_⟩,⟨fun k p q j=>Kit.zAo _ _ _ _ _ (fun e=> ?_),Kit.below_setCells _ _ _ (yN _ _) za⟩⟩
 ·rw[qR1];exact(Kit.zAo _ _ _ _ _ a).trans h.blk
 ·rw[qR1];exact b.2
 ·subst e;obtain⟨_,_,d,f,m⟩:=o;exact j d f m
theorem Qu.ld (h:Qu w R (qw ⟨g,0,qx⟩) c l) (i:Nat) (hi:i<kG l):(loadVar TT ⟨g,i*2,qx⟩).run yG w= .ok (tv (at_ l i)) w:=by
 have b:=h.own.rd.ld (P:=yG) (e:=TT) i hi szT qBq;rw[qQc]at b;unfold at_;rw[qPw,qPu hi];exact b
theorem Qu.drew (h:Qu w R a c l):Qu w.drew R a c l:=⟨h.blk,h.own⟩
theorem Qu.here (h:Qu w R a c l) (b:0<kG l):∃g,a=qw ⟨g,0,qx⟩:=by
 obtain⟨g,d,_⟩:=h.own.at_ b;exact⟨g,d⟩
theorem Qu.push (h:Qu w R a c l) (x:Nat×Nat) (I:kG l<=100000):
  ∃a' c' w',(Builtin.append_ #[297,297] 297 #[qX a (kG l) c,qX (qw ⟨w.heap.size,0,qx⟩) 1 1]).run yG (w.alloc (qm (TL.cl x).toArray TT))= .ok (qX a' (kG l+1) c') w'/\
   w'.heap[R]? =qw (qm #[qX a (kG l) c,QF] TQ)/\Qu (w'.setCell ⟨R,0,qx⟩ (qX a' (kG l+1) c')) R a' c' (l++[x])/\StT w (w'.setCell ⟨R,0,qx⟩ (qX a' (kG l+1) c')) R:=by
 have F:Kit.Rd TL (w.alloc (qm (TL.cl x).toArray TT)) (qw ⟨w.heap.size,0,qx⟩) [x]:=Kit.zFo w x TT;have m:yj TL (w.alloc (qm (TL.cl x).toArray TT)) (R+1) TT a (kG l) c l:=h.own.alloc _;have q:=h.lt;obtain⟨a',c',w',r,o,i⟩:=m.app (ty:=297) qHe (qw ⟨w.heap.size,0,qx⟩) 1 1 [x] F rfl (fun h=>by cases h) (by unfold maxLen;omega) za (by rw[zA];omega);have j:yI w.heap.size w (w.alloc (qm (TL.cl x).toArray TT)):=(yN _ _).alloc (qPq _) _;have b:(w.alloc (qm (TL.cl x).toArray TT)).heap[R]? =qw (qm #[qX a (kG l) c,QF] TQ):=(j.block R q).trans h.blk;have hne:=zJt m b z8;have d:w'.heap[R]? =qw (qm #[qX a (kG l) c,QF] TQ):=(i.block R (zAd b) (fun e=>hne e.symm)).trans b;refine⟨a',c',w',r,d,⟨?_,?_⟩,⟨fun k s t u=> ?_,?_⟩⟩
 ·rw[setBlock 0 d,qPx];rfl
 ·rw[qPx];exact qRy o (zB1 w' R 0 _) (.inr (zJt o d z8))
 ·rw[zAa t];refine(i.block k (by rw[zA];omega) (fun e=> ?_)).trans (j.block k s);obtain⟨_,f⟩:=h.own;rcases f with⟨f,_⟩|⟨g,G,H,hv,_,y,_⟩
  ·injection f with f _ _
   subst f;simp[Value.ownBlock]at e
  ·injection hv with ha _ _
   subst ha;simp[Value.ownBlock]at e;subst e;exact u _ _ y
 ·refine((j.mono (qP6 q)).trans (Kit.zAq i (by rw[zA];omega) (fun k z=> ?_))).setCell (p:=⟨R,0,qx⟩) (qPq _) _;have:=m.block k z;omega
theorem zQq (R:Nat) (a:Option yB) (c:Nat) (l:List (Nat×Nat)) (x:Nat×Nat) (w:qy) (q:Qu w R a c l) (hl:kG l<=1000) (hp:Hp lq (kG l) (at_ l)):
  yC yG 177 #[qY (qw ⟨R,0,qx⟩),tv x] w fun e w'=>e=qp (qZ #[])/\∃a' c' l',Qu w' R a' c' l'/\l'.Perm (x::l)/\Hp lq (kG l') (at_ l')/\StT w w' R:=by
 obtain⟨B,hB⟩:=zB w.heap.size;have ac:=q.lt;rw[hB]at ac;obtain⟨W,hW⟩:=zB (w.alloc (qm #[qV qj (x.1:Int),qV qj (x.2:Int)] TT));have zW:W.heap.size=B+1:=by rw[<-hW,zA,hB]
 have M:yI B w W:=by rw[<-hW,<-hB];exact(yN _ _).alloc (qPq _) _
 have K:=q.below M hB.symm;have hx:W.heap[B]? =qw (qm #[qV qj (x.1:Int),qV qj (x.2:Int)] TT):=by
  rw[<-hW,<-hB];show(w.heap.push _)[w.heap.size]? =_;simp
 have a3:(loadVar TT ⟨B,0,qx⟩).run yG W.drew= .ok (tv x) W.drew:=by
  obtain⟨x0,x1,_,_⟩:=zAf (w:=W.drew) hx;exact Kit.zHe (L:=TL) (b:=B) (off:=0) (x:=x) (fun i hi=>by
   have:i=0\/i=1:=by have h2:i<2:=hi;omega
   rcases this with rfl|rfl
   ·exact x0
   ·exact x1) szT qBq
 obtain⟨n,hn⟩:=zB (kG l);obtain⟨a1,c1,w1,G,d,f,s⟩:=K.drew.push x za;rw[hn]at G d f s hl hp;have aa:W.drew.heap.size=B+1:=zW;obtain⟨y0,_,_,_⟩:=zAf (w:=W.drew) K.blk;rw[hn]at y0;obtain⟨y2,_,y3,_⟩:=zAf d;have h:(loadVar 297 ⟨R,0,qx⟩).run yG W.drew= .ok (qX a n c) W.drew:=yh y0 zf zf;have I:(storeVar 297 ⟨R,0,qx⟩ (qX a1 (n+1) c1)).run yG w1= .ok () (w1.setCell ⟨R,0,qx⟩ (qX a1 (n+1) c1)):=Kit.zDs y2 y3 zf rfl rfl;obtain⟨w2,V⟩:=zB (w1.setCell ⟨R,0,qx⟩ (qX a1 (n+1) c1));rw[V]at I f s;have H:kG (l++[x])=n+1:=by rw[qPx,hn];rfl
 have a7:StT w w2 R:=(StT.of_below (hB▸M) za).trans ((StT.of_below (w':=W.drew) (yN _ _).drew za).trans s);have hU:Up lq (n+1) n (at_ (l++[x])):=Up.start hp (fun k hk=>by
  unfold at_;rw[qPw,qPw,qR6 za])
 have HU:=zH hU;have HP:=yP ((l++[x]).Perm (x::l)) (List.perm_append_singleton x l);obtain⟨a0,a6,Y,F,Z⟩:=yT f H a7 a3 h;have X:=yP ((loadVar 297 ⟨R,0,qx⟩).run yG (W.drew.alloc (qm (TL.cl x).toArray TT))= .ok (qX a n c) (W.drew.alloc (qm (TL.cl x).toArray TT))) (yh ((World.cell?_alloc_lt _ _ _ (by show R<_;omega)).trans y0) zf zf);obtain⟨ab,a9,HZ⟩:=yR I G aa;obtain⟨z0,_,_,_⟩:=zAf f.blk;rw[H]at z0;clear q K M hx a3 hn G d f s y0 y2 y3 h I V H a7 hU zW aa hp;unfold tv at F⊢;go_enter func177,ntmps177;go_wp2;clear hW hB;refine zS [7,10] (fun W'=>(loadVar 297 ⟨R,0,qx⟩).run yG W'= .ok (qX a n c) W') [0,0,2,4,8,0,32,80,255,511,767] 11<|zu 0 6 (zP R 0)<|zu 1 7 (zP R 0)<|zu 2 8 (zP R 0)<|zu 3 9 (zP R 0)<|zy 4 10 (qX a n c) (fun w hS=>zl 297 9 (hS)) Z.out<|zp [5]<|zt 11 (.agg #[qV qj (x.1:Int),qV qj (x.2:Int)]) (zl 295 3 (F.out))<|zn<|zo 6 12 (qX (qw ⟨W.drew.heap.size,0,qx⟩) 1 1) zf (.inr (.inr (X.out)))<|zo 7 13 (qX a1 (n+1) c1) (Kit.zHb (.tmp 10) (.tmp 12) 297 rfl zf zf a9.out) (.inr (.inl zf))<|zp [8,9]<|zk 14 (zP R 0)<|zk 15 (zP R 0)<|zn<|zw 10 qx (zr 297 15 13 (ab.out)) (.inr (.inl zf))<|zE<| ?_
 simp only[zP,zI,Act.put,qPz,qPy,qP0];clear a9 F Z X ab HZ;go_wp2;go_loopw [4] (fun i wr=>∃(k c2:Nat) (a2:Option yB) (m:List (Nat×Nat)),k<=n/\i=qV qj k/\yH (Qu wr R a2 c2 m)/\yH (kG m=n+1)/\yH (m.Perm (x::l))/\yH (Up lq (n+1) k (at_ m))/\yH (StT w wr R)) (fun i _=>(intOf i).toNat)
 case atStart=>exact⟨n,c1,a1,l++[x],qPq _,by go_num,a0,a6,HP,HU,Y⟩
 case round=>
  clear a0 a6 HP HU Y z0;obtain⟨k,c2,a2,m,hk,rfl,q,z,hp,hu,hs⟩:=hrel;obtain⟨g,rfl⟩:=q.out.here (by rw[z.out];omega);by_cases h0:0<k
  ·obtain⟨u,S⟩:=zB ((k-1)/2);have af:u<k:=za
   have f:((k:Int)-1)/2=(u:Int):=za
   have ae:=(zE3 q.out.own).1;obtain⟨x0,x1,_,_⟩:=zAf (w:=wr.drew) q.out.blk;rw[z.out]at x0;have h:(loadVar 297 ⟨R,0,qx⟩).run yG wr.drew= .ok (qX (qw ⟨g,0,qx⟩) (n+1) c2) wr.drew:=yh x0 zf zf;have a4:(loadVar 296 ⟨R,1,qx⟩).run yG wr.drew= .ok QF wr.drew:=yh x1 zf zf;have d:k<kG m:=by rw[z.out];omega
   have o:u<kG m:=by rw[z.out];omega
   obtain⟨L0,L1,LK,LU,HC,p⟩:=yU h a4 (q.out.drew.ld k d) (q.out.drew.ld u o) (zPg (at_ m k) (at_ m u) wr.drew) S;obtain⟨pk,N⟩:=zB (at_ m k);obtain⟨pu,O⟩:=zB (at_ m u);rw[N]at LK HC;rw[O]at LU HC;obtain⟨PK,PU⟩:=yQ N O;clear x0 x1 h a4 d o N O S;cases hr:lq pk pu with
   |false=>
    rw[hr]at HC;have HR:=zH hr;clear hr;go_wp2;rw[f];refine zS [] (fun _=>True) [0,1,2,4,0,16,32,64,0,384,512,0,2048,4096,8192,0,49152,65536,132104,262144] 20<|zp [0,1,2,3,4,5,6,7,8,9,10,11,12,13,14,15,16,17]<|zk 27 (zP R 0)<|zk 28 (zP R 0)<|zk 29 (zP R 1)<|zt 30 QF (zl 296 29 (L1.out))<|zk 31 (zP R 0)<|zk 32 (zP R 0)<|zk 33 (zP R 0)<|zt 34 (qX (qw ⟨g,0,qx⟩) (n+1) c2) (zl 297 33 (L0.out))<|zk 35 (zI k)<|zt 36 (qY (qw ⟨g,k*2,qx⟩)) (xG (t:=297) (x:=(.tmp 34)) (y:=(.tmp 35)) (g:=g) (n:=(n+1)) (c:=c2) (k:=k) (sz:=2) rfl zf zf za underlying297 (fun _=>sizeOf295 _) _)<|zt 37 (tv pk) (zl 295 36 (LK.out))<|zk 38 (zP R 0)<|zk 39 (zP R 0)<|zk 40 (zP R 0)<|zt 41 (qX (qw ⟨g,0,qx⟩) (n+1) c2) (zl 297 40 (L0.out))<|zk 42 (zI u)<|zt 43 (qY (qw ⟨g,u*2,qx⟩)) (xG (t:=297) (x:=(.tmp 41)) (y:=(.tmp 42)) (g:=g) (n:=(n+1)) (c:=c2) (k:=u) (sz:=2) rfl zf zf za underlying297 (fun _=>sizeOf295 _) _)<|zt 44 (tv pu) (zl 295 43 (LU.out))<|zn<|zc 18 45 176 #[tv pk,tv pu] (qc yE) HC.out<| ?_
    refine fun w5 ad=>⟨.inr (.inr trivial),?_⟩;refine zp [19]<|zk 46 (qc yD)<|zn<|zE<| ?_
    simp only[zP,zI,Act.put,qPz,qPy,qP0];have H5:=yP (yI wr.heap.size wr w5) ((yN _ _).drew.trans ad);clear ad HC LK LU L0 L1;go_wp2
    try simp only[Exit.inBlock,Exit.then]
    refine qP5 (v:=qZ #[]) zf rfl ⟨rfl,_,_,m,q.out.below H5.out rfl,hp.out,?_,hs.out.trans (StT.of_below H5.out (qP6 q.out.lt))⟩;rw[z.out];exact hu.out.stop (.inr (by rw[p.out,PK.out,PU.out];exact HR.out))
   |true=>
    rw[hr]at HC;have HR:=zH hr;clear hr;go_wp2;rw[f];refine zS [] (fun _=>True) [0,1,2,4,0,16,32,64,0,384,512,0,2048,4096,8192,0,49152,65536,132104,262144] 20<|zp [0,1,2,3,4,5,6,7,8,9,10,11,12,13,14,15,16,17]<|zk 27 (zP R 0)<|zk 28 (zP R 0)<|zk 29 (zP R 1)<|zt 30 QF (zl 296 29 (L1.out))<|zk 31 (zP R 0)<|zk 32 (zP R 0)<|zk 33 (zP R 0)<|zt 34 (qX (qw ⟨g,0,qx⟩) (n+1) c2) (zl 297 33 (L0.out))<|zk 35 (zI k)<|zt 36 (qY (qw ⟨g,k*2,qx⟩)) (xG (t:=297) (x:=(.tmp 34)) (y:=(.tmp 35)) (g:=g) (n:=(n+1)) (c:=c2) (k:=k) (sz:=2) rfl zf zf za underlying297 (fun _=>sizeOf295 _) _)<|zt 37 (tv pk) (zl 295 36 (LK.out))<|zk 38 (zP R 0)<|zk 39 (zP R 0)<|zk 40 (zP R 0)<|zt 41 (qX (qw ⟨g,0,qx⟩) (n+1) c2) (zl 297 40 (L0.out))<|zk 42 (zI u)<|zt 43 (qY (qw ⟨g,u*2,qx⟩)) (xG (t:=297) (x:=(.tmp 41)) (y:=(.tmp 42)) (g:=g) (n:=(n+1)) (c:=c2) (k:=u) (sz:=2) rfl zf zf za underlying297 (fun _=>sizeOf295 _) _)<|zt 44 (tv pu) (zl 295 43 (LU.out))<|zn<|zc 18 45 176 #[tv pk,tv pu] (qc yD) HC.out<| ?_
    refine fun w5 ad=>⟨.inr (.inr trivial),?_⟩;refine zp [19]<|zk 46 (qc yE)<|zn<|zE<| ?_
    simp only[zP,zI,Act.put,qPz,qPy,qP0];have H5:=yP (yI wr.heap.size wr w5) ((yN _ _).drew.trans ad);have r:=q.out.below H5.out rfl;have a5:=hs.out.trans (StT.of_below H5.out (qP6 q.out.lt));clear ad HC LK LU L0 L1 H5;obtain⟨x0,x1,_,_⟩:=zAf (w:=w5.drew) r.blk;rw[z.out]at x0;have h:(loadVar 297 ⟨R,0,qx⟩).run yG w5.drew= .ok (qX (qw ⟨g,0,qx⟩) (n+1) c2) w5.drew:=yh x0 zf zf;have d:k<kG m:=by rw[z.out];omega
    have o:u<kG m:=by rw[z.out];omega
    have lk:=r.drew.ld k d;have lu:=r.drew.ld u o;rw[PK.out]at lk;rw[PU.out]at lu;obtain⟨s1,q6,t6⟩:=r.drew.set k d pu;obtain⟨w6,P⟩:=zB (w5.drew.setCells g (k*2) (TL.cl pu));rw[P]at s1 q6 t6;obtain⟨s2,q7,t7⟩:=q6.set u (by rw[qR1];exact o) pk;obtain⟨w7,a8⟩:=zB (w6.setCells g (u*2) (TL.cl pk));rw[a8]at s2 q7 t7;obtain⟨L0,LK,LU,S1,S2,Q7,T7⟩:=yV h lk lu s1 s2 q7 ((a5.trans (StT.of_below (w':=w5.drew) (yN _ _).drew (qP6 r.lt))).trans (t6.trans t7));have e:(m.set k pu).set u pk=sw m k u:=by unfold sw;rw[show m.getD u (0,0)=pu from PU.out,show m.getD k (0,0)=pk from PK.out]
    rw[e]at Q7;have hU:Up lq (n+1) u (at_ (sw m k u)):=by
     have h1:=Up.step (g:=at_ (sw m k u)) zF3 hu.out h0 za (by rw[p.out,PK.out,PU.out];exact HR.out) (by rw[p.out];exact qEy m k u d za) (by rw[p.out];exact qEw m k u o) (fun j h1 h2=>by rw[p.out]at h2;exact qEx m k u j h1 h2);rwa[p.out]at h1
    obtain⟨HU,HP⟩:=yQ hU ((zTd m k u d o).trans hp.out);have HL:=yP (kG (sw m k u)=n+1) (by rw[zWo];exact z.out);clear r a5 x0 x1 h d o lk lu s1 q6 t6 P s2 q7 t7 a8 e hU f;go_wp2;refine zS [] (fun _=>True) [0,1,2,4,0,0,32,64,128,0,0,1024,2048,4096,0,24576,32768,0,131072,262144,524288,0,3145728,4194304,9567519,26344735,67108863,134217727] 28<|zu 9 56 (zI u)<|zp [0,1,2,3,4,5,6,7,8,10,11,12,13,14,15,16,17,18,19,20,21,22,23,24]<|zk 47 (zP R 0)<|zk 48 (zP R 0)<|zk 49 (zP R 0)<|zt 50 (qX (qw ⟨g,0,qx⟩) (n+1) c2) (zl 297 49 (L0.out))<|zk 51 (zI k)<|zk 52 (zP R 0)<|zk 53 (zP R 0)<|zk 54 (zP R 0)<|zt 55 (qX (qw ⟨g,0,qx⟩) (n+1) c2) (zl 297 54 (L0.out))<|zk 57 (zP R 0)<|zk 58 (zP R 0)<|zk 59 (zP R 0)<|zt 60 (qX (qw ⟨g,0,qx⟩) (n+1) c2) (zl 297 59 (L0.out))<|zk 61 (zI u)<|zt 62 (qY (qw ⟨g,u*2,qx⟩)) (xG (t:=297) (x:=(.tmp 60)) (y:=(.tmp 61)) (g:=g) (n:=(n+1)) (c:=c2) (k:=u) (sz:=2) rfl zf zf za underlying297 (fun _=>sizeOf295 _) _)<|zt 63 (tv pu) (zl 295 62 (LU.out))<|zk 64 (zP R 0)<|zk 65 (zP R 0)<|zk 66 (zP R 0)<|zt 67 (qX (qw ⟨g,0,qx⟩) (n+1) c2) (zl 297 66 (L0.out))<|zk 68 (zI k)<|zt 69 (qY (qw ⟨g,k*2,qx⟩)) (xG (t:=297) (x:=(.tmp 67)) (y:=(.tmp 68)) (g:=g) (n:=(n+1)) (c:=c2) (k:=k) (sz:=2) rfl zf zf za underlying297 (fun _=>sizeOf295 _) _)<|zt 70 (tv pk) (zl 295 69 (LK.out))<|zt 71 (qY (qw ⟨g,k*2,qx⟩)) (xG (t:=297) (x:=(.tmp 50)) (y:=(.tmp 51)) (g:=g) (n:=(n+1)) (c:=c2) (k:=k) (sz:=2) rfl zf zf za underlying297 (fun _=>sizeOf295 _) _)<|zn<|zw 25 qx (zr 295 71 63 (S1.out)) (.inr (.inr trivial))<|zp [26]<|zt 72 (qY (qw ⟨g,u*2,qx⟩)) (xG (t:=297) (x:=(.tmp 55)) (y:=(.tmp 56)) (g:=g) (n:=(n+1)) (c:=c2) (k:=u) (sz:=2) rfl zf zf za underlying297 (fun _=>sizeOf295 _) _)<|zn<|zw 27 qx (zr 295 72 70 (S2.out)) (.inr (.inr trivial))<|zE<| ?_
    simp only[zP,zI,Act.put,qPz,qPy,qP0];clear S1 S2 LK LU L0;go_wp2;go_roundw
    case rel=>exact⟨u,c2,qw ⟨g,0,qx⟩,sw m k u,za,rfl,Q7,HL,HP,HU,T7⟩
    case measure=>simp[intOf];omega
  ·obtain rfl:k=0:=za
   go_wp2;go_end0;refine⟨rfl,_,_,m,q.out,hp.out,?_,hs.out⟩;rw[z.out];exact hu.out.stop (.inl rfl)
end Wg
end Go.Proofs.YtppnakkaljbmbaaGreatDoor
