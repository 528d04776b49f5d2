/- Steps of a proof; no condition beyond what each states. -/
import Derived.Test.YtppnakkaljbmbaaGreatDoorZX00
import Derived.Test.YtppnakkaljbmbaaGreatDoorZX17
set_option linter.unusedVariables false
set_option linter.unusedSimpArgs false
set_option maxRecDepth 100000
set_option maxHeartbeats 8000000
open List renaming length->kG
open Go.Proofs.YtppnakkaljbmbaaGreatDoor.Kit renaming Src->yZ,Own->yg,zAg->yh
open Go.RowKit
open Go.Proofs.Tryz
open Go.Value renaming int->qV,string->qW,slice->qX,pointer->qY,tuple->qZ,bool->qc
open Go.IntKind renaming i64->qj
open Go.Obj renaming cells->qm
open Go.Ending renaming returned->qp
open Option renaming some->qw,none->qx
open Go renaming World->qy,Value->qz,TypeId->yA,Addr->yB,Calls->yC,undef->yJ
open Bool renaming false->yE
open Decidable renaming decide->yF
open Go.Proofs.Tryz renaming prog->yG
open Go.RowKit renaming Below->yI
open Go.World renaming cell?->yM
open Go.RowKit.Below renaming refl->yN
namespace Go.Proofs.YtppnakkaljbmbaaGreatDoor
namespace Ch
open Front Bt Zr Wg
variable {ρ:Operand->qz} {o:Oper} {x y n z B p G D k c:Nat} {w w' w0:qy} {m:List Nat} {vs:List qz} {ts:List (List Nat)}
abbrev TA:yA:=162
abbrev zi (n:Nat):Obj:=qm (cellsOf n (fun _=>qV qj 0)) 3
abbrev z2:Obj:=qm #[qX qx 0 0,qX qx 0 0] TA
def zDc (k a b:Nat):Nat:=if k=0 then a else b
structure We (B:Nat) (w0:qy) (m:List Nat) (n p x y z:Nat) (w:qy):Prop where
 ax:zAm w x 3 n (wt m p 0)
 ay:zAm w y 3 n (wt m p 1)
 az:w.heap[z]? =qw (qm #[qX (qw ⟨x,0,qx⟩) n n,qX (qw ⟨y,0,qx⟩) n n] TA)
 nxy:x≠y
 nxz:x≠z
 nyz:y≠z
 bx:B<=x
 by_:B<=y
 bz:B<=z
 below:yI B w0 w
theorem run_mk {P:Program} {t:yA} {x y:Operand} {a b u:qz} (d:o.op= .makeSlice t x y) (f:ρ x=a) (g:ρ y=b) (e:(Instr.makeSlice t a b).run P w= .ok u w'):(execOp ρ o).run P w= .ok (.value u) w':=by
 unfold execOp;simp[d,f,g,e]
theorem zEr {x y:Operand} {N:Nat} (b:n<=1000000) (d:o.op= .makeSlice 23 x y) (f:ρ x=qV qj (n:Int)) (g:ρ y=qV qj (n:Int)) (a:w.heap.size=N) (e:w.alloc (zi n)=w'):
  (execOp ρ o).run yG w= .ok (.value (qX (qw ⟨N,0,qx⟩) n n)) w':=by
 subst a e;exact run_mk d f g (zF2 w n b)
theorem zAh (w:qy) (o:Obj):(w.alloc o).heap[w.heap.size]? =qw o:=by show(w.heap.push o)[w.heap.size]? =_;simp
theorem zG8 (d:w.heap[z]? =qw z2):
  (storeVar TA ⟨z,0,qx⟩ (.agg #[qX (qw ⟨x,0,qx⟩) n n,qX (qw ⟨y,0,qx⟩) n n])).run yG w= .ok () (w.setCells z 0 [qX (qw ⟨x,0,qx⟩) n n,qX (qw ⟨y,0,qx⟩) n n]):=by
 have a:(prog.info? TA).map (·.size)=qw 2:=zf
 refine qSm (P:=yG) w z 0 TA #[qX (qw ⟨x,0,qx⟩) n n,qX (qw ⟨y,0,qx⟩) n n] (fun j b=> ?_) a (by simp[Value.oneCell']);have e:j<2:=b;refine⟨?_,?_⟩
 all_goals
  obtain rfl|rfl:j=0\/j=1:=za
  all_goals simp[yM,World.frozen?,d]
theorem We.start (m:List Nat) (q:yI B w0 w) (g:w.heap[x]? =qw (zi n)) (h:w.heap[y]? =qw (zi n)) (d:w.heap[z]? =qw z2) (j:x≠y) (l:B<=x) (i:B<=y) (f:B<=z):
  We B w0 m n 0 x y z (w.setCells z 0 [qX (qw ⟨x,0,qx⟩) n n,qX (qw ⟨y,0,qx⟩) n n]):=by
 have b:x≠z:=fun e=>by subst e;rw[g]at d;injection d with d;injection d with _ d _;exact absurd d z8
 have a:y≠z:=fun e=>by subst e;rw[h]at d;injection d with d;injection d with _ d _;exact absurd d z8
 refine⟨(Kit.zAo _ w z 0 x b).trans g,(Kit.zAo _ w z 0 y a).trans h,?_,j,b,a,l,i,f,Kit.below_setCells _ z 0 q f⟩;exact Kit.zDl _ w z 0 _ TA (0,0) d
theorem We.get (h:We B w0 m n p x y z w) (k:Nat) (a:k<2):
  w.cell? ⟨z,k,qx⟩=qw (qX (qw ⟨zDc k x y,0,qx⟩) n n)/\zAm w (zDc k x y) 3 n (wt m p k)/\B<=zDc k x y/\zDc k x y<w.heap.size:=by
 obtain rfl|rfl:k=0\/k=1:=za
 ·exact⟨by simp[yM,h.az,zDc],h.ax,h.bx,h.ax.lt⟩
 ·exact⟨by simp[yM,h.az,zDc],h.ay,h.by_,h.ay.lt⟩
theorem We.step (h:We B w0 m n p x y z w) (k s:Nat) (f:p/10%2=k) (a:m.getD p 0=s) {V:Int} (d:V=(wt m p k s+1:Nat)):
  We B w0 m n (p+1) x y z (w.setCell ⟨zDc k x y,s,qx⟩ (qV qj V)):=by
 have g:k<2:=za
 obtain rfl|rfl:k=0\/k=1:=za
 ·refine⟨(h.ax.set s _ d).congr fun j b=> ?_,(h.ay.keep (zAa h.nxy.symm)).congr fun j b=> ?_,(zAa h.nxz.symm).trans h.az,h.nxy,h.nxz,h.nyz,h.bx,h.by_,h.bz,h.below.setCell (p:=⟨x,s,qx⟩) h.bx _⟩
  ·rw[zG4];by_cases e:j=s
   ·subst e;rw[zCj,qPr ⟨f,a⟩]
   ·rw[zBb _ _ _ _ e,qPt (fun h=>e (h.2.symm.trans a)),qRh]
  ·rw[zG4,qPt (fun h=>za),qRh]
 ·refine⟨(h.ax.keep (zAa h.nxy)).congr fun j b=> ?_,(h.ay.set s _ d).congr fun j b=> ?_,(zAa h.nyz.symm).trans h.az,h.nxy,h.nxz,h.nyz,h.bx,h.by_,h.bz,h.below.setCell (p:=⟨y,s,qx⟩) h.by_ _⟩
  ·rw[zG4,qPt (fun h=>za),qRh]
  ·rw[zG4];by_cases e:j=s
   ·subst e;rw[zCj,qPr ⟨f,a⟩]
   ·rw[zBb _ _ _ _ e,qPt (fun h=>e (h.2.symm.trans a)),qRh]
theorem We.grow (h:We B w0 m n p x y z w) (a:yI w.heap.size w w'):We B w0 m n p x y z w':=by
 have b:z<w.heap.size:=(qQ5.1 h.az).1;have d:B<=w.heap.size:=qP4 h.bz (qP6 b);exact⟨h.ax.keep (a.block x h.ax.lt),h.ay.keep (a.block y h.ay.lt),(a.block z b).trans h.az,h.nxy,h.nxz,h.nyz,h.bx,h.by_,h.bz,h.below.trans (a.mono d)⟩
structure Tb (w:qy) (D:Nat) (n:Nat) (p:Option yB) (k c:Nat) (vs:List qz) (ts:List (List Nat)):Prop where
 own:yg w D TL_ p k c vs
 len:kG ts=k
 each:∀(i:Nat) (t:List Nat),ts[i]? =qw t->∃G,vs[i]? =qw (Value.slice (qw ⟨G,0,qx⟩) n n)/\yZ w (qw ⟨G,0,qx⟩) (t.map ival)/\zDj w G/\D<=G
theorem Tb.start (w:qy) (D n:Nat):Tb w D n qx 0 0 [] []:=⟨Kit.Own.start _ _ _,rfl,fun i g h=>by simp at h⟩
theorem zOv (h:zDj w G):G<w.heap.size:=by obtain⟨a,f,h⟩:=h;exact(qQ5.1 h).1
theorem Tb.grow {p:Option yB} (h:Tb w D n p k c vs ts) (a:yI w.heap.size w w'):Tb w' D n p k c vs ts:=
 ⟨h.own.below a (qPq _),h.len,fun i t hi=>by obtain⟨G,d,e,b,f⟩:=h.each i t hi;exact⟨G,d,e.below a,b.below a (zOv b),f⟩⟩
theorem zP5 {l:List qz} (h:yZ w (qw ⟨G,0,qx⟩) l) (e:w'.heap[G]? =w.heap[G]?):yZ w' (qw ⟨G,0,qx⟩) l:=by
 intro j u f;obtain⟨b,off,a,d⟩:=h j u f;injection a with a
 injection a with h1 h2 _
 subst h1 h2;refine⟨_,_,rfl,?_⟩;rw[<-d];simp[yM,e]
theorem Tb.app {p:Option yB} {t:List Nat} (h:Tb w D n p k c vs ts) (hs:yZ w (qw ⟨G,0,qx⟩) (t.map ival)) (hi:zDj w G) (hG:D<=G) (hk:k<=100000) (hD:D<=w.heap.size):
  ∃I c2 w',(Builtin.append_ #[60,60] 60 #[qX p k c,qX (qw ⟨w.heap.size,0,qx⟩) 1 1]).run yG (w.alloc (qm #[qX (qw ⟨G,0,qx⟩) n n] TL_))= .ok (qX I (k+1) c2) w'/\
   Tb w' D n I (k+1) c2 (vs++[qX (qw ⟨G,0,qx⟩) n n]) (ts++[t])/\yI D w w':=by
 have O:=h.own.alloc (qm #[qX (qw ⟨G,0,qx⟩) n n] TL_);obtain⟨I,c2,w',Y,Z,M⟩:=O.app (ty:=60) qFj (qw ⟨w.heap.size,0,qx⟩) 1 1 [qX (qw ⟨G,0,qx⟩) n n] (Kit.zAs w _ TL_) rfl (fun h=>by cases h) (by intro u P;simp at P;subst P;rfl) (by unfold maxLen;omega) za (by rw[zA];omega);have N:yI w.heap.size w (w.alloc (qm #[qX (qw ⟨G,0,qx⟩) n n] TL_)):=(yN _ _).alloc (qPq _) _;have j:=h.own.len;have bl:∀{s:Nat},zDj w s->w'.heap[s]? =w.heap[s]? :=fun{s} R=>by
  have g:=zOv R;refine(M.block s (by rw[zA];omega) (fun e=> ?_)).trans (N.block s g);obtain⟨F,f,m⟩:=R;obtain⟨_,H⟩:=h.own;rcases H with⟨H,_⟩|⟨g',a0,a1,hv,_,a,_⟩
  ·injection H with H _ _
   subst H;simp[Value.ownBlock]at e
  ·injection hv with ha _ _
   subst ha;simp[Value.ownBlock]at e;subst e;rw[m]at a;injection a with a
   injection a with _ a _
   exact absurd a z8
 refine⟨I,c2,w',Y,⟨Z,by rw[qPx,h.len];rfl,fun i x q=> ?_⟩,?_⟩
 ·rcases qP8 i (kG ts) with g|l
  ·rw[qR6 g]at q;obtain⟨s,V,W,K,X⟩:=h.each i x q;refine⟨s,by rw[qR6 (by rw[j,<-h.len];exact g)];exact V,zP5 W (bl K),?_,X⟩;obtain⟨F,f,d⟩:=K;exact⟨F,f,(bl ⟨F,f,d⟩).trans d⟩
  ·rw[qS4 l]at q;have o:i-kG ts=0:=by
    rcases qQy (i-kG ts)with L|L
    ·exact L
    ·rw[qQp zq]at q;cases q
   rw[o]at q;simp at q;subst q;have r:i=kG ts:=za
   subst r;refine⟨G,by rw[qS4 (by rw[j,h.len];exact qPq _),j,h.len,Nat.sub_self];rfl,zP5 hs (bl hi),?_,hG⟩;obtain⟨F,f,d⟩:=hi;exact⟨F,f,(bl ⟨F,f,d⟩).trans d⟩
 ·exact(N.mono hD).trans (Kit.zAq M (by rw[zA];omega) (fun b S=>O.block b S))
end Ch
namespace Sq
open Front Us Tn St Zr Bt Ch Hf
variable {w:qy} {B i:Nat} {v:qz} {t:yA}
abbrev TQ:yA:=133
def qv (a:ByteArray) (o:Nat) (p:Option yB) (n c:Nat):qz:= .agg #[qW a,qV qj (o:Int),qX p n c]
theorem zFr (a:ByteArray) (o:Nat) (p:Option yB) (n c:Nat) (b:a.size<=1000000) (w:qy):
  yC yG 148 #[qv a o p n c] w fun e w'=>e=qp (qV qj ((a.size:Int)+1))/\yI w.heap.size w w':=by
 unfold qv;go_enter func148,ntmps148;go_wp2;go_ret;exact⟨rfl,(yN _ _).alloc (qPq _) _⟩
theorem zO4 (a:ByteArray) (o:Nat) (p:Option yB) (n c:Nat) (f:a.size<=1000000) (w:qy):
  yC yG 70 #[qv a o p n c] w fun e w'=>e=qp (qV qj ((a.size:Int)+2))/\yI w.heap.size w w':=by
 have b:=zH (fun W=>zFr a o p n c f W);unfold qv at*;go_enter func70,ntmps70;go_wp2_with fail;(with_reducible refine(b.out _).mono ?_);rintro e w2 ⟨rfl,d⟩;have HB:=zH (((yN w.heap.size w).alloc (qPq _) (qm #[qW a,qV qj (o:Int),qX p n c] TQ)).trans (d.mono zm));clear d b;go_wp2;go_ret;exact⟨Bt.zBw za,HB.out⟩
theorem zBi {u x:qz} (h:w.heap[B]? =qw (qm #[u,v,x] t)):w.cell? ⟨B,0,qx⟩=qw u/\w.cell? ⟨B,1,qx⟩=qw v/\w.cell? ⟨B,2,qx⟩=qw x/\w.frozen? ⟨B,0,qx⟩=yE/\w.frozen? ⟨B,1,qx⟩=yE/\w.frozen? ⟨B,2,qx⟩=yE:=by
 refine⟨by simp[yM,h],by simp[yM,h],by simp[yM,h],by simp[World.frozen?,h],by simp[World.frozen?,h],by simp[World.frozen?,h]⟩
theorem qF8 {Q:Nat} {o:Obj} (hne:Q≠B) (h:w.heap[B]? =qw o):(w.setCell ⟨Q,i,qx⟩ v).heap[B]? =qw o:=(zAa (fun e=>hne e.symm)).trans h
theorem zA3 {a:Array qz} {f:Nat×Nat} (i:Nat) (v:qz) (h:w.heap[B]? =qw (qm a t f)):(w.setCell ⟨B,i,qx⟩ v).heap[B]? =qw (qm (a.setIfInBounds i v) t f):=by
 simp[World.setCell,qQs,h]
theorem zCz {r:Nat} {e:yA} {a:Option yB} {n c:Nat} {l:List qz} (h:yg w B e a n c l) (b:r<B) (u:qz):yg (w.setCell ⟨r,i,qx⟩ u) B e a n c l:=zD4 h b u
theorem zZp {f:Func} {p u:Tmp} (h:f.results= #[.cell p TQ,.tmp u]) (tmps:Array qz) (w:qy) (r:Nat) (e x y z:qz) (j:tmps.getD p yJ=qY (qw ⟨r,0,qx⟩)) (d:tmps.getD u yJ=e)
  (a:w.cell? ⟨r,0,qx⟩=qw x) (b:w.cell? ⟨r,1,qx⟩=qw y) (c:w.cell? ⟨r,2,qx⟩=qw z):(results f tmps).run yG w= .ok (qZ #[.agg #[x,y,z],e]) w:=by
 have g:(loadVar TQ ⟨r,0,qx⟩).run yG w= .ok (.agg #[x,y,z]) w:=by simp[loadVar,go_sem,a,b,c]
 rw[results_cell_tmp h,j,d];simp[asAddr,g,Result.andThen]
theorem zSh (p:ByteArray) (h0:0<p.size) (h1:p.size<=1000) (w:qy):
  yC yG 69 #[qW p] w fun e w'=>∃a c,e=qp (qZ #[qv (zAj p) (zA8 p) a (kG (sym p)) c,qV qj 0])/\yg w' w.heap.size 3 a (kG (sym p)) c ((sym p).map ival)/\yI w.heap.size w w':=by
 have hl:=zDq p h0;have ad:=zFk p;have N:=zTm p h0;obtain⟨B,hB⟩:=zB w.heap.size;obtain⟨n,hn⟩:=zB p.size;have j1:p.toList.isEmpty=yE:=by rw[qS8,List.isEmpty_eq_false_iff];intro e;have:kG p.data.toList=0:=(by rw[e];rfl);rw[Array.length_toList]at this;have:p.size=0:=this;omega
 have j2:decide ((65536:Int)<(n:Int))=yE:=qP1 za;obtain⟨A,q⟩:=zB (zAj p);obtain⟨O,hO⟩:=zB (zA8 p);obtain⟨L,hL⟩:=zB (lastT p);have ag:L.size=n:=by rw[<-hL,zCp,hn]
 have j:=fun k hk=>zQr p h0 k hk;have b:=zDb p;rw[q]at ad;have o:=fun W=>zMo A L za za W;rw[show A.data.toList=al p from by rw[<-q];rfl,show L.data.toList=la p from by rw[<-hL];rfl,N.1,N.2]at o;have a0:kG (sym p)=kG (enc 0 (plc p))+1:=zCv p;have Y:sym p=enc 0 (plc p)++[A.size+1]:=by rw[<-q];rfl
 have I:=zL1 p;rw[show sy p=enc 0 (plc p)from rfl]at I;rw[hn]at I b;rw[q]at j;rw[hB,q,hO,a0,Y];rw[b]at o;obtain⟨l,a9⟩:=zB (plc p);rw[a9]at o j b I⊢;obtain⟨m,hm⟩:=zB (enc 0 l);rw[hm]at I;obtain⟨HF,a1,a4,a8⟩:=yS (fun W=>by have h:=zKn p n hn za za W;rw[hL,hO]at h;exact h) (fun W=>by have h:=zEc p za W;rw[q]at h;exact h) o (fun(a:Option yB) (c:Nat) (W:qy) (hs:yZ W a (l.map ival)) (had:Ad a n c)=>by
  have h:=zD8 l a n c W b za hs had (fun x hx=>by have:=j x hx;omega);rw[hm]at h;exact h)
 obtain⟨HN,HM⟩:=yQ hn hm;clear N q hO hL o a0 Y a9 hm j b;unfold qv;go_enter func69,ntmps69;go_wp2_with fail;(with_reducible refine(HF.out _).mono ?_);rintro e w2 ⟨rfl,u⟩;go_wp2_with fail;(with_reducible refine(a1.out _).mono ?_);rintro e y ⟨rfl,K⟩;have r0:(w.alloc (qm #[qW ⟨#[]⟩,qV qj 0,qX qx 0 0] TQ)).heap[B]? =qw (qm #[qW ⟨#[]⟩,qV qj 0,qX qx 0 0] TQ):=by rw[<-hB];exact zAh w _
 have b1:yI B w (w.alloc (qm #[qW ⟨#[]⟩,qV qj 0,qX qx 0 0] TQ)):=by rw[<-hB];exact(yN _ _).alloc (qPq _) _
 obtain⟨w1,H⟩:=zB (w.alloc (qm #[qW ⟨#[]⟩,qV qj 0,qX qx 0 0] TQ));have z1:w1.heap.size=B+1:=by rw[<-H,zA,hB]
 rw[H]at r0 b1;rw[show w.alloc (qm #[qW ⟨#[]⟩,qV qj 0,qX qx 0 0] 133)=w1 from H,z1]at u;have ab:=u.size;have ac:=K.size;have b3:yI B w y:=b1.trans ((u.mono za).trans (K.mono za));have r3:y.heap[B]? =qw (qm #[qW ⟨#[]⟩,qV qj 0,qX qx 0 0] TQ):=by rw[K.block B za,u.block B za];exact r0
 obtain⟨Q,hQ⟩:=zB y.heap.size;have af:B+1<=Q:=za
 obtain⟨z,d⟩:=zB (y.alloc (qm #[qW A,qV qj (O:Int),qX qx 0 0] TQ));have z4:z.heap.size=Q+1:=by rw[<-d,zA,hQ]
 have q4:z.heap[Q]? =qw (qm #[qW A,qV qj (O:Int),qX qx 0 0] TQ):=by rw[<-d,<-hQ];exact zAh y _
 have r4:z.heap[B]? =qw (qm #[qW ⟨#[]⟩,qV qj 0,qX qx 0 0] TQ):=by rw[<-d,Lib.alloc_old y _ B za];exact r3
 have b4:yI B w z:=by rw[<-d];exact b3.alloc za _
 obtain⟨Z,Q4,R4,B4⟩:=yS d q4 r4 b4;obtain⟨x0,_⟩:=cells3 q4;clear u K r0 b1 H z1 ab ac b3 r3 d q4 r4 b4 HF a1;go_wp2_with fail;rw[show y.alloc (qm #[qW A,qV qj (O:Int),qX qx 0 0] TQ)=z from Z.out];(with_reducible refine(a4.out _).mono ?_);rintro e w5 ⟨a5,c5,rfl,a3,f,_,P⟩;have V:=zH (a8.out a5 c5 w5 a3 P);rw[z4]at f;have ah:=f.size;obtain⟨Q5,R5,B5⟩:=yR ((f.block Q za).trans Q4.out) ((f.block B za).trans R4.out) (B4.out.trans (f.mono za));clear a4 a8 f a3 P Q4 R4 B4 Z x0;go_wp2_with fail;(with_reducible refine V.out.mono ?_);rintro e w6 ⟨a6,c6,rfl,R,s⟩;have ai:=s.size;have M:=(s.block Q za).trans Q5.out;obtain⟨R6,B6,O6⟩:=yR ((s.block B za).trans R5.out) (B5.out.trans (s.mono za)) R;obtain⟨y0,y1,y2,y3⟩:=cells3 M;obtain⟨Q6,G⟩:=yQ M (fun W=>zFr A O qx 0 0 za W);unfold qv at G;clear V s R M Q5 R5 B5;go_wp2_with fail;(with_reducible refine(G.out _).mono ?_);rintro e w7 ⟨rfl,g⟩;have aj:=g.size;have a2:=(g.block Q za).trans Q6.out;obtain⟨R7,B7,O7⟩:=yR ((g.block B za).trans R6.out) (B6.out.trans (g.mono za)) (O6.out.below g (qPq _));obtain⟨p8,c8,w8,a7,S,t⟩:=zMb O7.out (A.size+1) za za;rw[show((A.size+1:Nat):Int)=(A.size:Int)+1 from za]at a7;have ak:=t.size;have X:=(t.block Q za).trans a2;have F:=(t.block B za).trans R7.out;obtain⟨y0,y1,y2,y3⟩:=cells3 X;obtain⟨g0,g1,g2,f0,f1,f2⟩:=zBi F;obtain⟨ae,B8,O8⟩:=yR (qF8 (i:=2) (Q:=Q) (B:=B) za F (v:=qX p8 (kG m+1) c8)) (B7.out.trans (t.mono za)) S;clear g t S a2 X F Q6 R6 R7 B6 B7 O6 O7 G;go_wp2_with (at_builtin;refine Kit.zAr rfl (.tmp 40) (.tmp 43) 23 rfl rfl rfl a7 ?_);have aa:=zA3 2 (qX p8 (kG m+1) c8) (zA3 1 (qV qj (O:Int)) (zA3 0 (qW A) ae.out));obtain⟨k0,k1,k2,_⟩:=cells3 aa;refine qP5 (zZp rfl _ _ B _ _ _ _ rfl rfl k0 k1 k2) rfl ⟨p8,c8,by rw[HM.out];rfl,?_,?_⟩
 ·rw[HM.out];exact((zCz (zCz (zCz (zCz O8.out (r:=Q) (i:=2) za _) (r:=B) (i:=0) za _) (r:=B) (i:=1) za _) (r:=B) (i:=2) za _).base za)
 ·exact(((B8.out.setCell (p:=⟨Q,2,qx⟩) (by show B<=Q;omega) _).setCell (p:=⟨B,0,qx⟩) (qPq _) _).setCell (p:=⟨B,1,qx⟩) (qPq _) _).setCell (p:=⟨B,2,qx⟩) (qPq _) _
end Sq
namespace Sq
open Front Us Tn St Zr Bt
variable {w w':qy} {K:Nat} {a b:ByteArray} {P:Program} {ρ:Operand->qz} {o:Oper} {t u:yA} {x y:Operand} {r:Bool}
abbrev TK:yA:=460
structure Wk where
 A:ByteArray
 O:Nat
 p:Option yB
 n:Nat
 c:Nat
 most:Nat
 q:Option yB
 m:Nat
 d:Nat
 by_:ByteArray
def WK (w:qy) (K:Nat) (x:Wk):Prop:=w.heap[K]? =qw (qm #[qW x.A,qV qj (x.O:Int),qX x.p x.n x.c,qV qj (x.most:Int),qX x.q x.m x.d,qW x.by_] TK)
theorem WK.lt {x:Wk} (h:WK w K x):K<w.heap.size:=zAd h
theorem WK.keep {x:Wk} (h:WK w K x) (e:w'.heap[K]? =w.heap[K]?):WK w' K x:=e.trans h
theorem WK.below {x:Wk} (h:WK w K x) (c:yI w.heap.size w w'):WK w' K x:=h.keep (c.block K h.lt)
theorem WK.c0 {x:Wk} (h:WK w K x):w.cell? ⟨K,0,qx⟩=qw (qW x.A):=by unfold WK at h;simp[yM,h]
theorem WK.c1 {x:Wk} (h:WK w K x):w.cell? ⟨K,1,qx⟩=qw (qV qj (x.O:Int)):=by unfold WK at h;simp[yM,h]
theorem WK.c2 {x:Wk} (h:WK w K x):w.cell? ⟨K,2,qx⟩=qw (qX x.p x.n x.c):=by unfold WK at h;simp[yM,h]
theorem WK.c3 {x:Wk} (h:WK w K x):w.cell? ⟨K,3,qx⟩=qw (qV qj (x.most:Int)):=by unfold WK at h;simp[yM,h]
theorem WK.c4 {x:Wk} (h:WK w K x):w.cell? ⟨K,4,qx⟩=qw (qX x.q x.m x.d):=by unfold WK at h;simp[yM,h]
theorem WK.c5 {x:Wk} (h:WK w K x):w.cell? ⟨K,5,qx⟩=qw (qW x.by_):=by unfold WK at h;simp[yM,h]
theorem WK.fr {x:Wk} (h:WK w K x) (i:Nat):w.frozen? ⟨K,i,qx⟩=yE:=by unfold WK at h;simp[World.frozen?,h]
theorem WK.l0 {x:Wk} (h:WK w K x):(loadVar 9 ⟨K,0,qx⟩).run yG w= .ok (qW x.A) w:=yh h.c0 zf zf
theorem WK.l1 {x:Wk} (h:WK w K x):(loadVar 3 ⟨K,1,qx⟩).run yG w= .ok (qV qj (x.O:Int)) w:=yh h.c1 zf zf
theorem WK.l2 {x:Wk} (h:WK w K x):(loadVar 23 ⟨K,2,qx⟩).run yG w= .ok (qX x.p x.n x.c) w:=yh h.c2 zf zf
theorem WK.l3 {x:Wk} (h:WK w K x):(loadVar 3 ⟨K,3,qx⟩).run yG w= .ok (qV qj (x.most:Int)) w:=yh h.c3 zf zf
theorem WK.l4 {x:Wk} (h:WK w K x):(loadVar 23 ⟨K,4,qx⟩).run yG w= .ok (qX x.q x.m x.d) w:=yh h.c4 zf zf
theorem WK.l5 {x:Wk} (h:WK w K x):(loadVar 9 ⟨K,5,qx⟩).run yG w= .ok (qW x.by_) w:=yh h.c5 zf zf
theorem WK.lq {x:Wk} (h:WK w K x):(loadVar TQ ⟨K,0,qx⟩).run yG w= .ok (qv x.A x.O x.p x.n x.c) w:=by
 have c:=h.c0;have d:=h.c1;have e:=h.c2;unfold qv;simp[loadVar,go_sem,c,d,e]
theorem WK.qE7 {x:Wk} (h:WK w K x) (q:Option yB) (m d:Nat):(storeVar 23 ⟨K,4,qx⟩ (qX q m d)).run yG w= .ok () (w.setCell ⟨K,4,qx⟩ (qX q m d))/\WK (w.setCell ⟨K,4,qx⟩ (qX q m d)) K {x with q:=q,m:=m,d:=d}:=by
 refine⟨Kit.zDs h.c4 (h.fr 4) zf rfl rfl,?_⟩;unfold WK at*;simp[World.setCell,qQs,h]
theorem WK.qE6 {x:Wk} (h:WK w K x) (b:ByteArray):(storeVar 9 ⟨K,5,qx⟩ (qW b)).run yG w= .ok () (w.setCell ⟨K,5,qx⟩ (qW b))/\WK (w.setCell ⟨K,5,qx⟩ (qW b)) K {x with by_:=b}:=by
 refine⟨Kit.zDs h.c5 (h.fr 5) zf rfl rfl,?_⟩;unfold WK at*;simp[World.setCell,qQs,h]
structure Upd (w w':qy) (K:Nat):Prop where
 old:∀k,k<w.heap.size->k≠K->w'.heap[k]? =w.heap[k]?
 below:yI K w w'
theorem Upd.refl (w:qy) (K:Nat):Upd w w K:=⟨fun _ _ _=>rfl,yN _ _⟩
theorem Upd.trans {c:qy} (h:Upd w w' K) (g:Upd w' c K):Upd w c K:=⟨fun k d e=>(g.old k (qQv d h.below.size) e).trans (h.old k d e),h.below.trans g.below⟩
theorem Upd.of_below (c:yI w.heap.size w w') (e:K<=w.heap.size):Upd w w' K:=⟨fun k d _=>c.block k d,c.mono e⟩
theorem Upd.set {i:Nat} {v:qz}:Upd w (w.setCell ⟨K,i,qx⟩ v) K:=⟨fun k _ c=>zAa c,(yN _ _).setCell (p:=⟨K,i,qx⟩) (qPq _) v⟩
theorem Upd.size (h:Upd w w' K):w.heap.size<=w'.heap.size:=h.below.size
theorem Upd.src {a:Option yB} {xs:List qz} (h:Upd w w' K) (g:yZ w a xs) (f:∀p,a=qw p->p.block≠K):yZ w' a xs:=by
 intro j u i;obtain⟨b,c,d,e⟩:=g j u i;refine⟨b,c,d,?_⟩;rw[<-e];simp only[yM,h.old b (qQk e) (f _ d)]
theorem zZi (c:o.op= .binOp .eql t x y u) (d:ρ x=qW a) (e:ρ y=qW b) (h:(a.toList==b.toList)=r) (w:qy):(execOp ρ o).run P w= .ok (.value (qc r)) w:=by
 subst h;unfold execOp;simp[c,d,e,go_sem]
theorem zZf (c:o.op= .binOp .neq t x y u) (d:ρ x=qW a) (e:ρ y=qW b) (h:(!(a.toList==b.toList))=r) (w:qy):(execOp ρ o).run P w= .ok (.value (qc r)) w:=by
 subst h;unfold execOp;simp[c,d,e,go_sem]
theorem zSp (K:Nat) (x:Wk) (w:qy) (h:WK w K x) (n:0<x.A.size) (p:x.A.size<=1000) (k:zAj x.A=x.A):
  yC yG 338 #[qY (qw ⟨K,0,qx⟩)] w fun e w'=>e=qp (qV qj 0)/\yI w.heap.size w w':=by
 have a:=zH (fun W=>by have h:=zEc x.A za W;rw[k]at h;exact h);have g:=yP ((x.A.toList==(⟨#[]⟩:ByteArray).toList)=yE) (by
  rw[qSc,qS8,qS8];intro e;have j:kG x.A.data.toList=0:=by rw[e];rfl
  rw[Array.length_toList]at j;have s:x.A.size=0:=j;omega)
 have i:=yP ((!(x.A.toList==x.A.toList))=yE) (by simp);have H:=zH h;obtain⟨A,f⟩:=zB x.A;have d:=zH (fun(W:qy) (q:WK W K x)=>by have h:=q.l0;rw[f]at h;exact h);rw[f]at a g i;clear h n p k f;go_enter func338,ntmps338;go_wp2;refine zS [] (fun m=>WK m K x) [0,1,2,4,8,16,32,64,192,320,576,1088,2112,64,8256,16448,32832,65600,135232,262208] 20<|zp [0,1,2,3,4,5,6]<|zk 3 (zP K 0)<|zk 4 (zP K 0)<|zk 5 (zP K 0)<|zk 6 (zP K 0)<|zt 7 (qW A) ((fun w c=>zl 9 6 (d.out _ c)) _ (show WK w.drew K x from H.out))<|zt 8 (qc yE) (zZi (x:= .tmp 7) (y:= .const (qW ⟨#[]⟩)) rfl zf zf g.out _)<|zk 9 (qc yE)<|zn<|zu 13 16 (zP K 0)<|zu 14 17 (zP K 0)<|zu 15 18 (zP K 0)<|zu 16 19 (zP K 0)<|zy 17 20 (qW A) (fun w c=>zl 9 19 (d.out _ c)) (show WK w.drew K x from H.out)<|zp [7,8,9,10,11]<|zk 10 (zP K 0)<|zk 11 (zP K 0)<|zk 12 (zP K 0)<|zk 13 (zP K 0)<|zt 14 (qW A) ((fun w c=>zl 9 13 (d.out _ c)) _ (show WK w.drew K x from H.out))<|zn<|zc 12 15 20 #[qW A] (qW A) (a.out _)<| ?_
 refine fun z l=>⟨.inr (.inr ((show WK w.drew K x from H.out).below l)),?_⟩;refine zp [18,19]<|zt 21 (qc yE) (zZf (x:= .tmp 15) (y:= .tmp 20) rfl zf zf i.out _)<|zk 22 (qc yE)<|zn<|zE<| ?_
 simp only[zP,zI,Act.put,qPz,qPy,qP0];go_wp2;go_ret;exact⟨rfl,(show yI w.heap.size w w.drew from(yN _ _).drew).trans l⟩
theorem zJk {e:yA} {g n c k:Nat} (j:o.op= .slice t x qx (qw y) qx) (l:ρ x=qX (qw ⟨g,0,qx⟩) n c) (m:ρ y=qV qj (k:Int)) (s:k<=n) (z:n<=c) (q:0<c)
  (h:P.underlying t=qw (.slice e)) (p:∀w,(sizeOf e).run P w= .ok 1 w) (w:qy):(execOp ρ o).run P w= .ok (.value (qX (qw ⟨g,0,qx⟩) k c)) w:=by
 have d:P.elem t=e:=by unfold Program.elem;rw[h]
 have f:P.underlying t=qw (.slice (P.elem t)):=by rw[d];exact h
 have i:(Instr.sliceAt t (qX (qw ⟨g,0,qx⟩) n c) qx (qw (qV qj (k:Int))) qx).run P w= .ok (qX (qw ⟨g,0,qx⟩) k c) w:=by
  rw[run_sliceAt_slice w t _ _ _ _ f,run_slice_h w t _ n c f qj (k:Int) za za,d,p];simp only[Result.andThen,sliced,Int.toNat_natCast,Nat.zero_mul,Nat.sub_zero,qRs,Kit.addr_add,qRh];rw[qPt za]
 unfold execOp;simp[j,l,m,i]
theorem zVc (K P y:Nat) (x:Wk) (w:qy) (h:WK w K x) (m:w.cell? ⟨P,0,qx⟩=qw (qY (qw ⟨K,0,qx⟩))) (d:x.A.size<=1000) (j:y<=x.A.size):
  yC yG 356 #[ival y,qY (qw ⟨P,0,qx⟩)] w fun e w'=>e=qp (qc yE)/\yI w.heap.size w w':=by
 have c:=zH (fun W=>zFr x.A x.O x.p x.n x.c za W);unfold qv at c;have l:=h.c0;have q:=h.c1;have s:=h.c2;obtain⟨A,f⟩:=zB x.A;obtain⟨k,i⟩:=zB A.size;rw[f]at c l d j;rw[i]at c d j;have n:decide ((y:Int)<0)=yE:=qP1 za;clear h f i;unfold ival;go_enter func356,ntmps356;go_wp2_with fail;(with_reducible refine(c.out _).mono ?_);rintro e w2 ⟨rfl,g⟩;have p:decide ((k:Int)+1<=(y:Int))=yE:=qP1 za;have HB:=zH g;clear g;go_wp2;go_ret;exact⟨rfl,HB.out⟩
theorem zR1 (w:qy):yC yG 339 #[qV qj 0] w fun e w'=>e=qp (qV qj 0)/\w'=w:=by
 go_enter func339,ntmps339;go_wp2;go_ret;exact⟨rfl,rfl⟩
theorem zRg (w:qy):yC yG 343 #[qV qj 0] w fun e w'=>e=qp (qV qj 0)/\w'=w:=by
 go_enter func343,ntmps343;go_wp2;go_ret;exact⟨rfl,rfl⟩
theorem zUt (K:Nat) (x:Wk) (l r:List Nat) (w:qy) (h:WK w K x) (I:kG l=x.m) (X:x.m<=2000) (L:yZ w x.q (l.map ival)) (G:∀p,x.q=qw p->p.block<w.heap.size) (had:Ad x.q x.m x.d) (M:∀y∈l,y<=100000) (k:D l=r) (s:kG r<=x.most) (n:x.most<=100000):
  yC yG 341 #[qY (qw ⟨K,0,qx⟩)] w fun e w'=>∃a c,e=qp (qV qj 0)/\WK w' K {x with q:=a,m:=kG r,d:=c}/\yg w' w.heap.size 3 a (kG r) c (r.map ival)/\Upd w w' K:=by
 have O:=yP (yC yG 37 #[qX x.q x.m x.d,qV qj (x.most:Int)] w.drew fun e w'=>∃a' c',e=qp (qZ #[qX a' (kG r) c',qV qj 0])/\yg w' w.heap.size 3 a' (kG r) c' (r.map ival)/\yI w.heap.size w.drew w') (by
  have h:=zFi l x.most x.q x.m x.d w.drew I za L G had M (by rw[k];exact s) n;rw[k]at h;exact h)
 have H:=yP (WK w.drew K x) h;have z:=h.lt;have R:=yP (Upd w w.drew K) ⟨fun _ _ _=>rfl,(yN _ _).drew⟩;clear h I X L G had M k s n;go_enter func341,ntmps341;go_wp2;refine zS [] (fun _=>True) [0,0,2,4,8,0,32,64,128,272,512,1024,1024,4095,12287,20479,65535] 17<|zu 0 4 (zP K 0)<|zp [1,2,3,4,5,6,7,8]<|zk 5 (zP K 0)<|zk 6 (zP K 0)<|zk 7 (zP K 4)<|zt 8 (qX x.q x.m x.d) (zl 23 7 (H.out.l4))<|zk 9 (zP K 0)<|zk 10 (zP K 0)<|zk 11 (zP K 3)<|zt 12 (qV qj (x.most:Int)) (zl 3 11 (H.out.l3))<|zn<|zx 9 13 37 #[qX x.q x.m x.d,qV qj (x.most:Int)] O.out<| ?_
 rintro e Y ⟨j,c5,rfl,f,b⟩;have B:=H.out.below b;obtain⟨N,F⟩:=B.qE7 j (kG r) c5;have V:=zH N;refine⟨_,rfl,.inr (.inr trivial),?_⟩;refine zp [10]<|zk 3 (qZ #[qX j (kG r) c5,qV qj 0])<|zn<|zu 12 15 (qV qj 0)<|zp [11,13,14]<|zk 14 (qX j (kG r) c5)<|zk 16 (zP K 0)<|zk 17 (zP K 4)<|zn<|zw 15 qx (zr 23 17 14 (V.out)) (.inr (.inr trivial))<|zp [16]<|zk 2 (qV qj 0)<|zn<|zE<| ?_
 simp only[zP,zI,Act.put,qPz,qPy,qP0];obtain⟨W,S,g⟩:=yR ((R.out.trans (Upd.of_below (show yI w.drew.heap.size w.drew Y from b) (qP6 z))).trans (Upd.set (i:=4) (v:=qX j (kG r) c5))) (zCz (r:=K) (i:=4) f z (qX j (kG r) c5)) F;clear b f B F N;go_wp2;go_ret;exact⟨_,_,rfl,g.out,S.out,W.out⟩
theorem qAj (K:Nat) (x:Wk) (l:List Nat) (r:ByteArray) (w:qy) (h:WK w K x) (G:0<x.m) (j:kG l=x.m) (M:x.m<=2000) (I:x.A.size<=1000) (n:yZ w x.q (l.map ival)) (m:zIv x.A.data.toList (l.map fun k:Nat=>(k:Int))=r.data.toList) (g:zC3 x.A.data.toList (l.map fun k:Nat=>(k:Int))=0):
  yC yG 342 #[qY (qw ⟨K,0,qx⟩)] w fun e w'=>e=qp (qV qj 0)/\WK w' K {x with by_:=r}/\Upd w w' K:=by
 have q:=yP (yC yG 38 #[qW x.A,qX x.q x.m x.d] w.drew fun e w'=>e=qp (qZ #[qW r,qV qj 0])/\yI w.heap.size w.drew w') (by
  have h:=zLq x.A I x.q x.d x.m (l.map fun k:Nat=>(k:Int)) (by rw[qQi];exact j) za w.drew (by rw[qRr];exact n);refine h.mono ?_;rintro e w' ⟨rfl,L⟩;rw[m,g];exact⟨rfl,L⟩)
 have H:=yP (WK w.drew K x) h;have s:=h.lt;have z:=yP (Upd w w.drew K) ⟨fun _ _ _=>rfl,(yN _ _).drew⟩;have R:((x.m:Int)==0)=yE:=by rw[qSc];omega
 have O:=h.c4;clear h j M n m g G;go_enter func342,ntmps342;go_wp2;refine zS [] (fun _=>True) [0,0,2,4,8,16,0,64,128,256,544,1024,2048,2048,8191,24575,40959,131071] 18<|zu 0 10 (zP K 0)<|zp [1,2,3,4,5,6,7,8,9]<|zk 11 (zP K 0)<|zk 12 (zP K 0)<|zk 13 (zP K 0)<|zk 14 (zP K 0)<|zt 15 (qW x.A) (zl 9 14 (H.out.l0))<|zk 16 (zP K 0)<|zk 17 (zP K 0)<|zk 18 (zP K 4)<|zt 19 (qX x.q x.m x.d) (zl 23 18 (H.out.l4))<|zn<|zc 10 20 38 #[qW x.A,qX x.q x.m x.d] (qZ #[qW r,qV qj 0]) q.out<| ?_
 refine fun N c=>⟨.inr (.inr trivial),?_⟩;have d:=H.out.below c;obtain⟨p,f⟩:=d.qE6 r;have B:=zH p;refine zp [11]<|zk 9 (qZ #[qW r,qV qj 0])<|zn<|zu 13 22 (qV qj 0)<|zp [12,14,15]<|zk 21 (qW r)<|zk 23 (zP K 0)<|zk 24 (zP K 5)<|zn<|zw 16 qx (zr 9 24 21 (B.out)) (.inr (.inr trivial))<|zp [17]<|zk 2 (qV qj 0)<|zn<|zE<| ?_
 simp only[zP,zI,Act.put,qPz,qPy,qP0];obtain⟨F,a⟩:=yQ ((z.out.trans (Upd.of_below (show yI w.drew.heap.size w.drew N from c) (qP6 s))).trans (Upd.set (i:=5) (v:=qW r))) f;clear c d f p O;go_wp2;go_ret;exact⟨rfl,a.out,F.out⟩
theorem zX2 (K:Nat) (x:Wk) (r:ByteArray) (w:qy) (h:WK w K x) (s:x.by_.size<=100000) (g:x.O<x.by_.size) (j:unL x.by_ x.O=r.data.toList):
  yC yG 344 #[qY (qw ⟨K,0,qx⟩)] w fun e w'=>e=qp (qV qj 0)/\WK w' K {x with by_:=r}/\Upd w w' K:=by
 have l:=yP (yC yG 39 #[qW x.by_,qV qj (x.O:Int)] w.drew fun e w'=>e=qp (qZ #[qW r,qV qj 0])/\yI w.heap.size w.drew w') (by
  have h:=zHm x.by_ x.O za g w.drew;rw[j]at h;exact h)
 have H:=yP (WK w.drew K x) h;have m:=h.lt;have n:=yP (Upd w w.drew K) ⟨fun _ _ _=>rfl,(yN _ _).drew⟩;clear h s g j;go_enter func344,ntmps344;go_wp2;refine zS [] (fun _=>True) [0,0,2,4,8,0,32,64,128,256,528,1024,2048,2048,8191,24575,40959,131071] 18<|zu 0 4 (zP K 0)<|zp [1,2,3,4,5,6,7,8,9]<|zk 5 (zP K 0)<|zk 6 (zP K 0)<|zk 7 (zP K 5)<|zt 8 (qW x.by_) (zl 9 7 (H.out.l5))<|zk 9 (zP K 0)<|zk 10 (zP K 0)<|zk 11 (zP K 0)<|zk 12 (zP K 1)<|zt 13 (qV qj (x.O:Int)) (zl 3 12 (H.out.l1))<|zn<|zc 10 14 39 #[qW x.by_,qV qj (x.O:Int)] (qZ #[qW r,qV qj 0]) l.out<| ?_
 refine fun z c=>⟨.inr (.inr trivial),?_⟩;have d:=H.out.below c;obtain⟨k,f⟩:=d.qE6 r;have p:=zH k;refine zp [11]<|zk 3 (qZ #[qW r,qV qj 0])<|zn<|zu 13 16 (qV qj 0)<|zp [12,14,15]<|zk 15 (qW r)<|zk 17 (zP K 0)<|zk 18 (zP K 5)<|zn<|zw 16 qx (zr 9 18 15 (p.out)) (.inr (.inr trivial))<|zp [17]<|zk 2 (qV qj 0)<|zn<|zE<| ?_
 simp only[zP,zI,Act.put,qPz,qPy,qP0];obtain⟨q,a⟩:=yQ ((n.out.trans (Upd.of_below (show yI w.drew.heap.size w.drew z from c) (qP6 m))).trans (Upd.set (i:=5) (v:=qW r))) f;clear c d f k;go_wp2;go_ret;exact⟨rfl,a.out,q.out⟩
end Sq
namespace Sq
open Front Tn Zr Bt Ix
variable {P K g:Nat} {ρ:Operand->qz} {o:Oper} {t u:yA} {x y:Operand} {k:IntKind} {m n:Int} {r:Bool} {W:qy} {xs:List qz}
theorem zZh {P:Program} (a:o.op= .binOp .lss t x y u) (c:ρ x=qV k m) (d:ρ y=qV k n) (b:decide (m<n)=r) (w:qy):(execOp ρ o).run P w= .ok (.value (qc r)) w:=by
 subst b;unfold execOp;simp[a,c,d,go_sem]
theorem zZg {P:Program} (a:o.op= .binOp .neq t x y u) (c:ρ x=qV k m) (d:ρ y=qV k n) (b:(m !=n)=r) (w:qy):(execOp ρ o).run P w= .ok (.value (qc r)) w:=by
 subst b;unfold execOp;simp[a,c,d,go_sem]
 try rfl
theorem Upd.drew (w:qy) (K:Nat):Upd w w.drew K:=⟨fun _ _ _=>rfl,(yN _ _).drew⟩
structure Se (W:qy) (K P g:Nat) (x:Wk) (xs:List qz):Prop where
 wk:WK W K x
 box:W.cell? ⟨P,0,qx⟩=qw (qY (qw ⟨K,0,qx⟩))
 src:yZ W (qw ⟨g,0,qx⟩) xs
theorem Se.below {W':qy} {x:Wk} (h:Se W K P g x xs) (a:yI W.heap.size W W'):Se W' K P g x xs:=
 ⟨h.wk.below a,by rw[a.cell (qQk h.box)];exact h.box,h.src.below a⟩
theorem Se.lp {x:Wk} (h:Se W K P g x xs):(loadVar 463 ⟨P,0,qx⟩).run yG W= .ok (qY (qw ⟨K,0,qx⟩)) W:=yh h.box zf zf
theorem Se.ls {x:Wk} {l:List Nat} (h:Se W K P g x (l.map ival)) (i:Nat) (hi:i<kG l) (v:Int) (hv:((l[i]:Nat):Int)=v):(loadVar 3 ⟨g,i,qx⟩).run yG W= .ok (qV qj v) W:=by
 obtain⟨b,off,a,c⟩:=h.src i (ival l[i]) (by rw[qP2,qPu hi];rfl);injection a with a
 injection a with h1 h2 _
 subst h1 h2;rw[qQc]at c;subst hv;unfold ival at c;exact yh c zf zf
theorem zX5 (K g n c:Nat) (A:ByteArray) (O most:Nat) (q0:Option yB) (M L:Nat) (I:ByteArray) (l:List Nat) (w:qy) (h:WK w K ⟨A,O,qw ⟨g,0,qx⟩,n+1,c,most,q0,M,L,I⟩) (hn:n<=2000) (hc:n+1<=c) (hl:kG l=n) (hA:A.size<=1000) (a1:∀y∈l,y<=A.size)
  (hs:yZ w (qw ⟨g,0,qx⟩) ((l++[A.size+1]).map ival)):
  yC yG 340 #[qY (qw ⟨K,0,qx⟩)] w fun e w'=>e=qp (qV qj 0)/\WK w' K ⟨A,O,qw ⟨g,0,qx⟩,n+1,c,most,qw ⟨g,0,qx⟩,n,c,I⟩/\Upd w w' K:=by
 obtain⟨P,X⟩:=zB w.heap.size;obtain⟨W,Y⟩:=zB (w.alloc (qm #[qY (qw ⟨K,0,qx⟩)] 463));have Z:yI w.heap.size w W:=by rw[<-Y];exact(yN _ _).alloc (qPq _) _
 have a:Se W K P g ⟨A,O,qw ⟨g,0,qx⟩,n+1,c,most,q0,M,L,I⟩ ((l++[A.size+1]).map ival):=⟨h.below Z,by rw[<-Y,<-X];simp,hs.below Z⟩;have a5:K<P:=by rw[<-X];exact h.lt
 have x2:=a.wk.c2;have xp:=a.box;simp only at x2;have HU:=yP (Upd w W K) (Upd.of_below Z (qP6 h.lt));have z:=yP (Se W.drew K P g ⟨A,O,qw ⟨g,0,qx⟩,n+1,c,most,q0,M,L,I⟩ ((l++[A.size+1]).map ival)) ⟨a.wk,a.box,a.src⟩;have HI:=yP (n<n+1) (qQ6 n);obtain⟨G,HE,s⟩:=yR (fun(W':qy) (R:Se W' K P g ⟨A,O,qw ⟨g,0,qx⟩,n+1,c,most,q0,M,L,I⟩ ((l++[A.size+1]).map ival))=>R.ls n (by simp[hl]) ((A.size:Int)+1) (by rw[List.getElem_append_right za];simp[hl])) (fun W'=>zFr A O (qw ⟨g,0,qx⟩) (n+1) c za W') (fun(W':qy) (R:Se W' K P g ⟨A,O,qw ⟨g,0,qx⟩,n+1,c,most,q0,M,L,I⟩ ((l++[A.size+1]).map ival))=>zYc l 356 (qY (qw ⟨P,0,qx⟩)) (qw ⟨g,0,qx⟩) n c W' hl za (by
   have V:=R.src.take n;rw[<-qTx,qUn za,qQg za]at V;exact V) (zHw func356 rfl rfl) (fun y hy a2 a0=>zVc K P y _ a2 (R.wk.below a0) (R.below a0).box hA (a1 y hy)))
 have p:=yP (yF ((n:Int)<0)=yE) (qP1 za);have r:=yP ((((A.size:Int)+1)!=((A.size:Int)+1))=yE) (by simp);have HC:=zH hc;have j:=yP (0<c) (by omega);have f:=yP (n<=n+1) (by omega);obtain⟨a4,F⟩:=yQ Y X;clear h hl hA a1 hs Z a hc;unfold qv at HE;go_enter func340,ntmps340;go_wp2;clear Y X x2 xp;refine zS [27] (fun W9=>Se W9 K P g ⟨A,O,qw ⟨g,0,qx⟩,n+1,c,most,q0,M,L,I⟩ ((l++[A.size+1]).map ival)) [0,1,2,4,12,20,36,68,4,388,516,4,2052,4100,8196,16388,33796,65540,163840,262144,786432,1310720,2359296,4456448,262144,25427968,262144,100925440,134479872] 29<|zp [0,1,2]<|zk 11 (zI n)<|zt 12 (qc yE) (zZh (k:=qj) (x:= .tmp 11) (y:= .const (qV qj 0)) rfl zf zf p.out _)<|zk 13 (qc yE)<|zn<|zu 8 19 (zI n)<|zy 3 14 (zP K 0) (fun w q=>zl 463 1 (q.lp)) z.out<|zu 4 15 (zP K 0)<|zu 5 16 (zP K 0)<|zu 6 17 (zP K 2)<|zy 7 18 (qX (qw ⟨g,0,qx⟩) (n+1) c) (fun w q=>zl 23 17 (q.wk.l2)) z.out<|zv 9 20 (zP g n) (fun w=>Kit.zBo (t:=23) (x:=(.tmp 18)) (y:=(.tmp 19)) (g:=g) (n:=n+1) (c:=c) (k:=n) rfl zf zf HI.out underlying23 (fun _=>sizeOf3 _) _)<|zy 10 21 (qV qj ((A.size:Int)+1)) (fun w q=>zl 3 20 (G.out _ q)) z.out<|zp [11,12,13,14]<|zt 22 (zP K 0) ((fun w q=>zl 463 1 (q.lp)) _ (z.out))<|zk 23 (zP K 0)<|zk 24 (zP K 0)<|zt 25 (.agg #[qW A,qV qj (O:Int),qX (qw ⟨g,0,qx⟩) (n+1) c]) ((fun w q=>zl 133 24 (q.wk.lq)) _ (z.out))<|zn<|zc 15 26 148 #[.agg #[qW A,qV qj (O:Int),qX (qw ⟨g,0,qx⟩) (n+1) c]] (qV qj ((A.size:Int)+1)) (HE.out _)<| ?_
 refine fun w5 H=>⟨.inr (.inr (z.out.below H)),?_⟩;refine zp [16,17,18,19,20,21,22,23,24,25,26]<|zt 27 (qc yE) (zZg (k:=qj) (x:= .tmp 21) (y:= .tmp 26) rfl zf zf r.out _)<|zk 28 (qc yE)<|zk 29 (qc yE)<|zt 30 (zP K 0) ((fun w q=>zl 463 1 (q.lp)) _ (z.out.below H))<|zk 31 (zP K 0)<|zk 32 (zP K 0)<|zk 33 (zP K 2)<|zt 34 (qX (qw ⟨g,0,qx⟩) (n+1) c) ((fun w q=>zl 23 33 (q.wk.l2)) _ (z.out.below H))<|zk 35 (zI n)<|zt 36 (qX (qw ⟨g,0,qx⟩) n c) (zJk (x:= .tmp 34) (y:= .tmp 35) rfl zf zf f.out HC.out j.out underlying23 (fun _=>sizeOf3 _) _)<|zk 37 (.func (.func 356) #[] #[qY (qw ⟨P,0,qx⟩)])<|zn<|zc 27 38 79 #[qX (qw ⟨g,0,qx⟩) n c,.func (.func 356) #[] #[qY (qw ⟨P,0,qx⟩)]] (qc yE) (s.out _ (z.out.below H))<| ?_
 refine fun w6 S=>⟨.inr (.inr ((z.out.below H).below S)),?_⟩;refine zp [28]<|zk 39 (qc yE)<|zn<|zE<| ?_
 simp only[zP,zI,Act.put,qPz,qPy,qP0];have N:=(z.out.below H).below S;obtain⟨a3,m⟩:=yQ N ((show yI W.drew.heap.size W.drew w5 from H).trans (S.mono H.size));obtain⟨s7,k7⟩:=(show WK w6.drew K _ from N.wk).qE7 (qw ⟨g,0,qx⟩) n c;obtain⟨u,o⟩:=yQ s7 k7;have b:=yP (Se w6.drew K P g ⟨A,O,qw ⟨g,0,qx⟩,n+1,c,most,q0,M,L,I⟩ ((l++[A.size+1]).map ival)) ⟨N.wk,N.box,N.src⟩;have B:K<=W.heap.size:=by
  have V:=HU.out.size;rw[F.out]at V;omega
 have d:=zH ((((HU.out.trans (Upd.drew W K)).trans (Upd.of_below m.out B)).trans (Upd.drew w6 K)).trans (Upd.set (i:=4) (v:=qX (qw ⟨g,0,qx⟩) n c)));clear H S N z s7 k7;go_wp2;refine zS [] (fun _=>True) [0,0,2,4,8,16,0,96,255,511,767] 11<|zp [0,1,2,3,4,5,6,7,8,9]<|zt 40 (zP K 0) (zl 463 1 (b.out.lp))<|zt 41 (zP K 0) (zl 463 1 (b.out.lp))<|zk 42 (zP K 0)<|zk 43 (zP K 0)<|zk 44 (zP K 2)<|zt 45 (qX (qw ⟨g,0,qx⟩) (n+1) c) (zl 23 44 (b.out.wk.l2))<|zk 46 (zI n)<|zt 47 (qX (qw ⟨g,0,qx⟩) n c) (zJk (x:= .tmp 45) (y:= .tmp 46) rfl zf zf f.out HC.out j.out underlying23 (fun _=>sizeOf3 _) _)<|zk 48 (zP K 0)<|zk 49 (zP K 4)<|zn<|zw 10 qx (zr 23 49 47 (u.out)) (.inr (.inr trivial))<|zE<| ?_
 simp only[zP,zI,Act.put,qPz,qPy,qP0];go_wp2;go_ret;exact⟨rfl,o.out,(⟨d.out.old,d.out.below⟩:Upd w _ K)⟩
end Sq
end Go.Proofs.YtppnakkaljbmbaaGreatDoor
