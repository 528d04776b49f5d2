/- Steps of a proof; no condition beyond what each states. -/
import Derived.Test.YtppnakkaljbmbaaGreatDoorZX00
import Derived.Test.YtppnakkaljbmbaaGreatDoorZX29
set_option linter.unusedVariables false
set_option linter.unusedSimpArgs false
set_option maxRecDepth 100000
set_option maxHeartbeats 8000000
open List renaming length->kG
open Go.Proofs.YtppnakkaljbmbaaGreatDoor.Kit renaming zAg->yh,Own'->yj,below_setCells->yt,zAo->xB,size_setCells->xC,spl->xI,zDl->xQ
open Go.Proofs.YtppnakkaljbmbaaGreatDoor.Rle renaming bs->yw,zBk->xu
open Go.Proofs.YtppnakkaljbmbaaGreatDoor.Cache renaming Sh->yx,take->xH,keep->xK,SI->xU,Has->xY
open Go.RowKit
open Go.Proofs.Tryz
open Go.Value renaming int->qV,string->qW,pointer->qY,tuple->qZ,bool->qc
open Go.IntKind renaming i64->qj
open Go.Obj renaming cells->qm
open Go.Ending renaming returned->qp
open Option renaming some->qw,none->qx
open Go renaming World->qy,Value->qz,TypeId->yA,Addr->yB,Calls->yC,undef->yJ
open Bool renaming true->yD,false->yE
open Decidable renaming decide->yF
open Go.Proofs.Tryz renaming prog->yG
open Go.RowKit renaming Below->yI
open Go.World renaming cell?->yM
open Go.RowKit.Below renaming refl->yN
namespace Go.Proofs.YtppnakkaljbmbaaGreatDoor
namespace Sk
open Bt Zr Wg Ch Sq Tn Sm Ix2 Sd
open Front (ival)
variable {w w':qy} {B lev n D g:Nat} {u v:qz}
abbrev TRp:yA:=44
theorem qIp {fn:Func} {t p:Tmp} {ty:yA} (h:fn.results= #[.tmp t,.cell p ty]) (tmps:Array qz) (P:Program) (w:qy) (a:yB) (v:qz) (d:tmps.getD p yJ=qY (qw a)) (c:(loadVar ty a).run P w= .ok v w):
  (results fn tmps).run P w= .ok (qZ #[tmps.getD t yJ,v]) w:=by
 have b:tmps[p]?.getD yJ=qY (qw a):=by simpa using d
 simp[results,h,b,asAddr,c,Result.andThen]
theorem qIv (h:w.heap[B]? =qw (qm #[u,v] TRp)):(loadVar TRp ⟨B,0,qx⟩).run yG w= .ok (.agg #[u,v]) w:=by
 simp[loadVar,go_sem,yM,h]
theorem qKy {u' v':qz} (h:w.heap[B]? =qw (qm #[u,v] TRp)) (c:∀z∈[u',v'],z.oneCell'=yD):
  ∃w',(storeVar TRp ⟨B,0,qx⟩ (.agg #[u',v'])).run yG w= .ok () w'/\w'.heap[B]? =qw (qm #[u',v'] TRp)/\(∀D,D<=B->yI D w w')/\w'.heap.size=w.heap.size/\(∀k,k≠B->w'.heap[k]? =w.heap[k]?):=by
 obtain⟨c0,c1,l,m⟩:=qIa h;have a:=qSm (P:=yG) w B 0 TRp #[u',v'] (fun j e=>by
  have i:j<2:=e;refine⟨?_,qH9 h _⟩;obtain rfl|rfl:j=0\/j=1:=za
  ·rw[show 0+0=0 from rfl,c0];rfl
  ·rw[show 0+1=1 from rfl,c1];rfl) zf (by simpa using c)
 have b:=xQ [u',v'] w B 0 _ _ _ h;rw[show xI #[u,v] 0 [u',v']= #[u',v']by simp[xI]]at b;exact⟨w.setCells B 0 [u',v'],a,b,fun D d=>yt _ B 0 (yN _ w) d,xC _ w B 0,fun k f=>xB _ w B 0 k f⟩
theorem AW.far {y:List T} {d:DV} {s:List Rr} {R:Nat} {l:Array qz} {t:yA} {f:Nat×Nat} (h:AW lev y n w B D g d s) (o:w.heap[R]? =qw (qm l t f)) (F:TEn≠t) (G:THd≠t) (H:TRr≠t) (I:TDk≠t) (q:∀k,k≠R->w'.heap[k]? =w.heap[k]?):AW lev y n w' B D g d s:=by
 have c:D≠R:=fun e=>by
  have x:=h.blk;rw[e]at x;have m:qw (Obj.cells d.cl TDk (0,0))=qw (Obj.cells l t f):=x.symm.trans o;exact I (qRf (qPv m)).2.1
 have K:yj LRr w' B TRr (qw ⟨g,0,qx⟩) d.m d.rc s:=by
  have L:=Ty.own h.own;obtain⟨z,j⟩:=h.own;refine⟨z,?_⟩;rcases j with j|⟨g',i,a,hv,b,p,r⟩
  ·exact .inl j
  ·refine .inr ⟨g',i,a,hv,b,(q g' (fun e=> ?_)).trans p,r⟩;rw[e]at p;have m:qw (Obj.cells a TRr (0,0))=qw (Obj.cells l t f):=p.symm.trans o;exact H (qRf (qPv m)).2.1
 exact⟨(q D c).trans h.blk,h.lo,h.rp,K,h.dm.far o F G q⟩
theorem AW.row {f:List T} {d:DV} {i:List Rr} (h:AW lev f n w B D g d i):∃a,w.heap[g]? =qw (qm a TRr):=by
 obtain⟨l,b⟩:=h.own;rcases b with⟨b,_⟩|⟨g',j,a,hv,k,e,r⟩
 ·injection b with a3;cases a3
 ·injection hv with ha
  have c:g=g':=qPs Addr.block (qPv ha);rw[c];exact⟨a,e⟩
theorem AW.at {y:List T} {d:DV} {m:List Rr} (h:AW lev y n w B D g d m) (r:Nat) (x:Rr) (s:m[r]? =qw x):
  w.cell? ⟨g,r*7,qx⟩=qw (qV qj (x.st:Int))/\w.cell? ⟨g,r*7+1,qx⟩=qw (qV qj (x.o:Int))/\w.cell? ⟨g,r*7+2,qx⟩=qw (qV qj (x.n:Int))/\w.cell? ⟨g,r*7+3,qx⟩=qw (qV qj (x.b:Int))/\w.cell? ⟨g,r*7+4,qx⟩=qw (qV qj (x.l:Int))/\w.cell? ⟨g,r*7+5,qx⟩=qw (qW x.got)/\w.cell? ⟨g,r*7+6,qx⟩=qw (qW x.txt):=by
 obtain⟨o,t,b,a⟩:=h.own.rd r x s;have b:=qPv b;have p:g=o:=qPs Addr.block b;have q:0=t:=qPs Addr.off b;subst p;subst q;have c:=a 0 z8;have e:=a 1 z8;have f:=a 2 z8;have i:=a 3 z8;have j:=a 4 z8;have k:=a 5 z8;have l:=a 6 z8;rw[qQc]at c e f i j k l;exact⟨c,e,f,i,j,k,l⟩
structure NW (lev:Nat) (ps:List T) (n:Nat) (w:qy) (B D g E:Nat) (d:DV) (rs:List Rr) (r:Nat) (u:qz) (c:Int):Prop where
 aw:AW lev ps n w B D g d rs
 bx:w.heap[E]? =qw (qm #[qY (qw ⟨D,0,qx⟩),qV qj (r:Int)] TAt)
 z1:w.heap[E+1]? =qw (qm #[qW ⟨#[]⟩,qV qj 0] TRp)
 z2:w.heap[E+1+1]? =qw (qm #[u,qV qj c] TRp)
theorem NW.below {b:List T} {E r:Nat} {d:DV} {e:List Rr} {c:Int} (h:NW lev b n w B D g E d e r u c) (a:yI w.heap.size w w'):NW lev b n w' B D g E d e r u c:=⟨h.aw.below a,hkeep h.bx a,hkeep h.z1 a,hkeep h.z2 a⟩
theorem zFr (lev n:Nat) (ps:List T) (B D g:Nat) (d:DV) (rs:List Rr) (r:Nat) (x:Rr) (hx:rs[r]? =qw x) (hr:r<d.m) (c:Int) (hc:c=0\/c=8) (w:qy) (a6:B<=w.heap.size) (h:AW lev ps n w B D g d rs):
  yC yG 257 #[.agg #[qY (qw ⟨D,0,qx⟩),qV qj (r:Int)],qV qj c] w fun e w'=>e=qp (qZ #[qc yD,.agg #[qW x.got,qV qj c]])/\AW lev ps n w' B D g d (rs.set r free)/\yI B w w'/\(∀k,k<w.heap.size->k≠g->w'.heap[k]? =w.heap[k]?):=by
 obtain⟨E,hE⟩:=zB w.heap.size;obtain⟨W,hW⟩:=zB (((w.alloc (qm #[qY (qw ⟨D,0,qx⟩),qV qj (r:Int)] TAt)).alloc (qm #[qW ⟨#[]⟩,qV qj 0] TRp)).alloc (qm #[qW ⟨#[]⟩,qV qj c] TRp));have j:yI w.heap.size w W:=by rw[<-hW];exact(((yN _ _).alloc (qPq _) _).alloc (by simp only[zA];omega) _).alloc (by simp only[zA];omega) _
 have N0:NW lev ps n W B D g E d rs r (qW ⟨#[]⟩) c:=⟨h.below j,
  by rw[<-hW,<-hE];exact(Lib.alloc_old _ _ _ (by simp only[zA];omega)).trans ((Lib.alloc_old _ _ _ (by simp only[zA];omega)).trans (zAh w _)),
  by rw[<-hW,<-hE,<-zA w (qm #[qY (qw ⟨D,0,qx⟩),qV qj (r:Int)] TAt)];exact(Lib.alloc_old _ _ _ (by simp only[zA];omega)).trans (zAh _ _),
  by rw[<-hW,<-hE,show w.heap.size+1+1=((w.alloc (qm #[qY (qw ⟨D,0,qx⟩),qV qj (r:Int)] TAt)).alloc (qm #[qW ⟨#[]⟩,qV qj 0] TRp)).heap.size from by simp only[zA]];exact zAh _ _⟩
 obtain⟨HS,H0⟩:=yQ (fun w' hw=>qI6 lev n ps B D g d rs r hr w' hw) N0;have HB:=yP (yI B w W) (j.mono a6);have u:=yP ((∀k,k<w.heap.size->W.heap[k]? =w.heap[k]?)/\w.heap.size<=W.heap.size) ⟨fun k m=>j.block k m,j.size⟩;have HW:=zH hW;subst hE;have O:B<=w.heap.size:=a6;have a8:(((w.alloc (qm #[qY (qw ⟨D,0,qx⟩),qV qj (r:Int)] TAt)).alloc (qm #[qW ⟨#[]⟩,qV qj 0] TRp)).alloc (qm #[qW ⟨#[]⟩,qV qj c] TRp))=W:=hW;have LG:=yP (∀q,AW lev ps n q B D g d rs->q.cell? ⟨g,r*7+5,qx⟩=qw (qW x.got)) (fun q h9=>by
  obtain⟨b0,o0,ha,hc⟩:=h9.own.rd r x hx;have ha:=qPv ha;have h1:g=b0:=qPs Addr.block ha;have h2:0=o0:=qPs Addr.off ha;have h3:=hc 5 z8;rw[<-h1,<-h2]at h3;rw[qQc]at h3;exact h3)
 have y:=qIa H0.out.bx;obtain⟨y0,y1,y2,y3⟩:=y;clear h j hW N0;have a9:¬c=0->c=8:=fun h0=>hc.resolve_left h0;clear hc;go_enter func257,ntmps257;go_wp2_with fail
 all_goals
  (with_reducible refine(HS.out _ H0.out.aw).mono ?_);rintro e w2 ⟨rfl,l⟩;have H2:=zH (H0.out.below l);have a4:=yP (yI B w w2) (HB.out.trans (l.mono (qP4 O HB.out.size)));have N:=yP ((∀k,k<w.heap.size->w2.heap[k]? =w.heap[k]?)/\w.heap.size<=w2.heap.size) ⟨fun k m=>(l.block k (qQv m u.out.2)).trans (u.out.1 k m),qP4 u.out.2 l.size⟩;have y5:=LG.out _ H2.out.aw;obtain⟨y6,y7,y8,y9⟩:=qIa H2.out.z2;obtain⟨z0,z1,_,_⟩:=qIa H2.out.bx;have G:=H2.out.z2;clear y0 y1 y2 y3 l H0;go_wp2_with fail;obtain⟨w3,i⟩:=zB (w2.setCells (w.heap.size+1+1) 0 [qW x.got]);rw[show w2.setCell ⟨w.heap.size+1+1,0,qx⟩ (qW x.got)=w3 from i];have b:∀k,k≠w.heap.size+1+1->w3.heap[k]? =w2.heap[k]? :=fun k m=>by rw[<-i];exact xB _ w2 _ _ k m
  have H3:=yP (NW lev ps n w3 B D g w.heap.size d rs r (qW x.got) c) ⟨H2.out.aw.far G z8 z8 z8 z8 b,(b _ za).trans H2.out.bx,(b _ za).trans H2.out.z1,by
   have h7:=xQ [qW x.got] w2 (w.heap.size+1+1) 0 _ _ _ G;rw[show xI #[qW ⟨#[]⟩,qV qj c] 0 [qW x.got]= #[qW x.got,qV qj c]by simp[xI]]at h7;rw[<-i];exact h7⟩
  have P:=yP ((∀k,k<w.heap.size->w3.heap[k]? =w.heap[k]?)/\w.heap.size<=w3.heap.size) ⟨fun k m=>(b k za).trans (N.out.1 k m),by rw[<-i,xC];exact N.out.2⟩;have M:=yP (yI B w w3) (by rw[<-i];exact yt _ _ 0 a4.out za);(with_reducible refine(HS.out _ H3.out.aw).mono ?_);rintro e w4 ⟨rfl,s⟩;have z:=zH (H3.out.below s);have Z:=yP (yI B w w4) (M.out.trans (s.mono (qP4 O M.out.size)));have a1:=yP (∀k,k<w.heap.size->w4.heap[k]? =w.heap[k]?) fun k m=>(s.block k (qQv m P.out.2)).trans (P.out.1 k m);obtain⟨V,K,L,I⟩:=z.out.aw.set r hr free;obtain⟨a7,a⟩:=z.out.aw.row;obtain⟨q0,q1,q2,q3,q4,q5,q6⟩:=z.out.aw.at r x hx;have f0:=qH9 a (r*7);have f1:=qH9 a (r*7+1);have f2:=qH9 a (r*7+2);have f3:=qH9 a (r*7+3);have f4:=qH9 a (r*7+4);have f5:=qH9 a (r*7+5);have f6:=qH9 a (r*7+6);clear y5 y6 y7 y8 y9 z0 z1 G s;go_wp2_with fail;clear q0 q1 q2 q3 q4 q5 q6 f0 f1 f2 f3 f4 f5 f6;obtain⟨w5,o⟩:=zB (w4.setCells g (r*7) (LRr.cl free));have hne:∀k (cs:Array qz) (t:yA),w4.heap[k]? =qw (Obj.cells cs t (0,0))->t≠TRr->w5.heap[k]? =w4.heap[k]? :=fun k cs t m ht=>by
   rw[<-o];refine xB _ w4 g _ k fun e=>ht ?_;rw[e,a]at m;exact((qRf (qPv m)).2.1).symm
  have Y:=yP (∀k,k<w.heap.size->k≠g->w5.heap[k]? =w.heap[k]?) (fun k m a5=>(by rw[<-o];exact xB _ w4 g _ k a5:w5.heap[k]? =w4.heap[k]?).trans (a1.out k m));rw[o]at K L I;have N5:=(show NW lev ps n w5 B D g w.heap.size d (rs.set r free) r (qW x.got) c from⟨K,(hne _ _ _ z.out.bx z8).trans z.out.bx,(hne _ _ _ z.out.z1 z8).trans z.out.z1,(hne _ _ _ z.out.z2 z8).trans z.out.z2⟩);have H5:=zH (N5.below ((yN _ w5).drew));clear N5;have a2:=yP (yI B w w5.drew) (Z.out.trans L).drew;have LR:=yP (∀q:qy,q.heap[w.heap.size+1+1]? =qw (Obj.cells #[qW x.got,qV qj c] TRp (0,0))->(loadVar TRp ⟨w.heap.size+1+1,0,qx⟩).run yG q= .ok (.agg #[qW x.got,qV qj c]) q) fun q h9=>qIv h9;obtain⟨w6,H,R,F,X,f⟩:=qKy (u':=qW x.got) (v':=qV qj c) H5.out.z1 (by simp[Value.oneCell']);have H6:=yP (AW lev ps n w6 B D g d (rs.set r free)) (H5.out.aw.far H5.out.z1 z8 z8 z8 z8 f);have a0:=yP (yI B w w6) (a2.out.trans (F B za));have S:=zH (qIv R);have a3:=yP (∀k,k<w.heap.size->k≠g->w6.heap[k]? =w.heap[k]?) fun k m a5=>(f k za).trans (Y.out k m a5);have Z6:=zH ((f (w.heap.size+1+1) za).trans H5.out.z2);rw[show(((((((w4.setCell ⟨g,r*7,qx⟩ (qV qj 0)).setCell ⟨g,r*7+1,qx⟩ (qV qj 0)).setCell ⟨g,r*7+2,qx⟩ (qV qj 0)).setCell ⟨g,r*7+3,qx⟩ (qV qj 0)).setCell ⟨g,r*7+4,qx⟩ (qV qj 0)).setCell ⟨g,r*7+5,qx⟩ (qW ⟨#[]⟩)).setCell ⟨g,r*7+6,qx⟩ (qW ⟨#[]⟩))=w5 from o];obtain⟨E,hE⟩:=zB w.heap.size;rw[hE]at LR H5 H S Z6⊢;clear o K L I hne a b i V F X f R hE;refine zS [] (fun q=>q.heap[E+1+1]? =qw (Obj.cells #[qW x.got,qV qj c] TRp (0,0))) [0,0,3] 3<|zp [0,1]<|zt 25 (.agg #[qW x.got,qV qj c]) ((fun w hS=>zl 44 6 (LR.out w hS)) _ (H5.out.z2))<|zk 4 (qc yD)<|zn<|zw 2 qx (zr 44 5 25 (H)) (.inr (.inr (Z6.out)))<|zE<| ?_
  simp only[zP,zI,Act.put,qPz,qPy,qP0];go_wp2;refine qP5 (v:=qZ #[qc yD,.agg #[qW x.got,qV qj c]]) ?_ rfl ?_
  ·exact qIp (t:=4) (p:=5) rfl _ _ _ ⟨E+1,0,qx⟩ _ rfl S.out
  ·exact⟨rfl,H6.out,a0.out,a3.out⟩
end Sk
namespace Sk
open Zr Sm Ix2
open Front (ival)
variable {w:qy} {B g n lev D:Nat}
theorem qNb {α:Type} {L:Kit.Lay α} {e:yA} {c:Nat} {m:List α} (h:yj L w B e (qw ⟨g,0,qx⟩) n c m) (i:Nat) (hi:i<n) (x y:α) (K:m[i]? =qw x) (k:Nat) (H:k<L.k) (v:qz) (M:L.cl y=(L.cl x).set k v):
  yj L (w.setCells g (i*L.k+k) [v]) B e (qw ⟨g,0,qx⟩) n c (m.set i y):=by
 have b:=h.len;have r:(i+1)*L.k<=n*L.k:=qRp _ hi;rw[qQt,qRn]at r;have P:kG (Kit.flat L m)=n*L.k:=by rw[Kit.zBg,b]
 have d:m.set i x=m:=by
  apply qRt;intro j;rw[qSv];split
  ·next e=>subst e;rw[qPr za,K]
  ·rfl
 obtain⟨R,u⟩:=h;rcases u with⟨u,_⟩|⟨g',O,a,hv,l,G,f,o,I,z⟩
 ·cases u
 ·injection hv with ha hn q
  injection ha with ha
  injection ha with ha
  subst ha q;have N:n*L.k<=c*L.k:=qRp _ f;refine⟨by rw[Kit.zBg,qR1,b],.inr ⟨g,c,xI a (i*L.k+k) [v],rfl,l,xQ _ _ _ _ _ _ _ G,f,o,by rw[Kit.zP7];exact I,?_⟩⟩;apply qRt;intro j;have F:=Kit.qA3 (L:=L) m i y za j;have t:=Kit.qA3 (L:=L) m i x za j;rw[d,<-z,qSb,qS5]at t;rw[F,qSb,qS5,M,qSv,L.len];by_cases s:j<n*L.k
  ·rw[qPr s];rw[qPr s]at t;by_cases p:j=i*L.k+k
   ·subst p;have:=Kit.zWt [v] a (i*L.k+k) 0 zm (by simp only[qP3,qQx];omega);rw[qRh]at this;rw[this,qPr ⟨za,za⟩,qPr za,qPr H];rfl
   ·rw[Kit.zM5 [v] a (i*L.k+k) j (by simp only[qP3,qQx];omega),t];by_cases q:i*L.k<=j/\j<i*L.k+L.k
    ·rw[qPr q,qPr q,qPt za]
    ·rw[qPt q,qPt q,<-z,qSb,qPr s,qS5]
  ·rw[qPt s,qPt za,qQp za]
theorem AW.qJ {o:List T} {d:DV} {l:List Rr} (h:AW lev o n w B D g d l) (r:Nat) (s:r<d.m) (x y:Rr) (z:l[r]? =qw x) (k:Nat) (q:k<7) (v:qz) (F:LRr.cl y=(LRr.cl x).set k v):
  AW lev o n (w.setCells g (r*7+k) [v]) B D g d (l.set r y)/\yI B w (w.setCells g (r*7+k) [v])/\(∀(j:Nat) (f:Array qz) (t:yA),w.heap[j]? =qw (Obj.cells f t (0,0))->t≠TRr->(w.setCells g (r*7+k) [v]).heap[j]? =w.heap[j]?):=by
 have p:=qNb h.own r s x y z k q v F;obtain⟨f,m⟩:=h.row;have b:∀j,j≠g->(w.setCells g (r*7+k) [v]).heap[j]? =w.heap[j]? :=fun j i=>xB _ w g _ j i;have a:∀(j:Nat) (f:Array qz) (t:yA),w.heap[j]? =qw (Obj.cells f t (0,0))->t≠TRr->(w.setCells g (r*7+k) [v]).heap[j]? =w.heap[j]? :=fun j G t i u=>b j fun e=>u (by
  rw[e,m]at i;exact((qRf (qPv i)).2.1).symm)
 have c:B<=g:=h.own.block g rfl;exact⟨⟨(a D _ _ h.blk z8).trans h.blk,h.lo,h.rp,p,h.dm.far m z8 z8 b⟩,yt _ g _ (yN _ w) c,a⟩
theorem AW.qOo {j:List T} {w':qy} {d d':DV} {m:List Rr} (h:AW lev j n w B D g d m) (u:w'.heap[D]? =qw (qm d'.cl TDk)) (l:∀k,k≠D->w'.heap[k]? =w.heap[k]?) (q:d'.rp=d.rp) (x:d'.m=d.m) (p:d'.rc=d.rc) (o:Dm lev j n w d'):AW lev j n w' B D g d' m:=by
 refine⟨u,h.lo,q.trans h.rp,?_,o.far h.blk z8 z8 l⟩;rw[x,p];obtain⟨y,z⟩:=h.row;obtain⟨s,i⟩:=h.own;refine⟨s,?_⟩;rcases i with i|⟨g',f,b,hv,c,a,r⟩
 ·exact .inl i
 ·refine .inr ⟨g',f,b,hv,c,(l g' (fun e=> ?_)).trans a,r⟩;rw[e,h.blk]at a;have t:=(qRf (qPv a)).2.1;exact absurd t z8
end Sk
namespace Sk
open Hf Bt Zr Ch Sq Tn Sm Ix2 Sd
open Front (ival)
variable {w:qy} {r:Nat} {P:Program} {ρ:Operand->qz} {o:Oper} {t:yA} {x:Operand} {a:ByteArray}
structure GW (lev:Nat) (ps:List T) (n:Nat) (w:qy) (B D g E:Nat) (d:DV) (rs:List Rr) (r:Nat):Prop where
 aw:AW lev ps n w B D g d rs
 bx:w.heap[E]? =qw (qm #[qY (qw ⟨D,0,qx⟩),qV qj (r:Int)] TAt)
 z1:w.heap[E+1]? =qw (qm #[qW ⟨#[]⟩,qV qj 0] TRp)
theorem GW.below {c n:Nat} {e:List T} {w':qy} {B D g E:Nat} {d:DV} {f:List Rr} (h:GW c e n w B D g E d f r) (b:yI w.heap.size w w'):GW c e n w' B D g E d f r:=⟨h.aw.below b,hkeep h.bx b,hkeep h.z1 b⟩
theorem h_lt {α:Type} {l:List α} {x:α} (h:l[r]? =qw x):r<kG l:=(qSj.1 h).1
theorem qN2 {lo hi:Operand} {l h:Nat} (g:o.op= .slice t x (qw lo) (qw hi) qx) (i:ρ x=qW a) (f:ρ lo=qV qj (l:Int)) (e:ρ hi=qV qj (h:Int)) (b:P.underlying t=qw .string) (c:l<=h) (d:h<=a.size):
  (execOp ρ o).run P w= .ok (.value (qW (a.extract l h))) w:=by
 unfold execOp;simp only[g,i,f,e,qRs,Option.map_none];have j:(0:Int)<=(l:Int):=za
 have k:(l:Int)<=(h:Int):=za
 have m:(h:Int)<=(a.size:Int):=za
 simp[run_sliceAt_string,Instr.slice,qTl b,Instr.sliceBounds,run_sliceBound,b,j,k,m,Result.andThen,go_sem,c,d]
theorem qLp {t':yA} {y:Operand} {b:ByteArray} (c:o.op= .binOp .add t x y t') (d:ρ x=qW a) (e:ρ y=qW b) (h:a.size+b.size<=9223372036854775807):
  (execOp ρ o).run P w= .ok (.value (qW (a++b))) w:=by
 unfold execOp;simp only[c,d,e];simp[binOp,eqGuard,run_string_add_sum w a b h,Result.andThen,go_sem]
theorem qNm (f n:Nat) (b:List T) (B D g:Nat) (d:DV) (rs:List Rr) (r:Nat) (x:Rr) (hx:rs[r]? =qw x) (hr:r<d.m) (hb:x.b<n) (bx:n<=1000) (a:ByteArray) (hf:(qIi f b x.b).f<=100000) (hl:(qIi f b x.b).l=a.size) (ha:a.size<=100000) (ho:x.o<=100000000) (hm:x.n<=100000000) (hp:paT x.o x.n (qIi f b x.b).f a.size<=a.size) (ci:x.got.size<=100000000) (X:Nat) (PP:Ps f b n) (hX:kG b.flatten=X) (w:qy) (bu:B<=w.heap.size) (h:AW f b n w B D g d rs):
  yC yG 255 #[.agg #[qY (qw ⟨D,0,qx⟩),qV qj (r:Int)],qW a] w fun e w'=>(x.b≠x.l->e=qp (qZ #[qc yE,.agg #[qW ⟨#[]⟩,qV qj 0]])/\AW f b n w' B D g d (rs.set r ⟨1,x.o,x.n,x.b+1,x.l,x.got++a.extract (paF x.o (qIi f b x.b).f) (paT x.o x.n (qIi f b x.b).f a.size),⟨#[]⟩⟩)/\yI B w w'/\(∀k,k<w.heap.size->k≠g->w'.heap[k]? =w.heap[k]?))/\(x.b=x.l->e=qp (qZ #[qc yD,.agg #[qW (x.got++a.extract (paF x.o (qIi f b x.b).f) (paT x.o x.n (qIi f b x.b).f a.size)),qV qj (if X<x.o+x.n then 8 else 0)]])/\AW f b n w' B D g d (rs.set r free)/\yI B w w'/\(∀k,k<w.heap.size->k≠g->w'.heap[k]? =w.heap[k]?)):=by
 obtain⟨E,hE⟩:=zB w.heap.size;obtain⟨W,hW⟩:=zB ((w.alloc (qm #[qY (qw ⟨D,0,qx⟩),qV qj (r:Int)] TAt)).alloc (qm #[qW ⟨#[]⟩,qV qj 0] TRp));have a0:yI w.heap.size w W:=by rw[<-hW];exact((yN _ _).alloc (qPq _) _).alloc (by rw[zA];omega) _
 have N0:GW f b n W B D g E d rs r:=⟨h.below a0,by rw[<-hW,<-hE];exact(Lib.alloc_old _ _ _ (by rw[zA];omega)).trans (zAh w _),by rw[<-hW,<-hE,<-zA w (qm #[qY (qw ⟨D,0,qx⟩),qV qj (r:Int)] TAt)];exact zAh _ _⟩;obtain⟨HS,aq,HP⟩:=yR (fun w' hw=>qI6 f n b B D g d rs r hr w' hw) (fun w' hw=>qKv f n b B D g d rs r x hx hr hb bx w' hw) (fun w'=>qK6 (qIi f b x.b) x.o x.n hf za ho hm w');have LC:=yP (∀q,AW f b n q B D g d rs->_) fun q h9=>h9.at r x hx;have LA:=yP (∀q,GW f b n q B D g E d rs r->(loadVar TAt ⟨E,0,qx⟩).run yG q= .ok (.agg #[qY (qw ⟨D,0,qx⟩),qV qj (r:Int)]) q) fun q h9=>qKf h9.bx;have LO:=yP (∀q,GW f b n q B D g E d rs r->(loadVar 3 ⟨g,r*7+1,qx⟩).run yG q= .ok (qV qj (x.o:Int)) q) fun q h9=>yh (h9.aw.at r x hx).2.1 zf zf;have LN:=yP (∀q,GW f b n q B D g E d rs r->(loadVar 3 ⟨g,r*7+2,qx⟩).run yG q= .ok (qV qj (x.n:Int)) q) fun q h9=>yh (h9.aw.at r x hx).2.2.1 zf zf;have H0:=zH N0;have HB:=yP (yI B w W) (a0.mono bu);have af:=yP ((∀k,k<w.heap.size->W.heap[k]? =w.heap[k]?)/\w.heap.size<=W.heap.size) ⟨fun k z=>a0.block k z,a0.size⟩;obtain⟨y0,y1,y2,y3⟩:=qIa H0.out.bx;obtain⟨en,a1⟩:=zB (qIi f b x.b);rw[a1]at aq HP;obtain⟨pf,ah⟩:=zB (paF x.o en.f);obtain⟨pt,V⟩:=zB (paT x.o x.n en.f en.l);rw[ah,V]at HP;have b8:B<=E:=za
 have HW:=zH hW;subst hE;have cf:((w.alloc (qm #[qY (qw ⟨D,0,qx⟩),qV qj (r:Int)] TAt)).alloc (qm #[qW ⟨#[]⟩,qV qj 0] TRp))=W:=hW;clear h a0 hW N0;go_enter func255,ntmps255;go_wp2_with fail;(with_reducible refine(HS.out _ H0.out.aw).mono ?_);rintro e w2 ⟨rfl,S⟩;have H2:=zH (H0.out.below S);have az:=yP (yI B w w2) (HB.out.trans (S.mono (qP4 b8 HB.out.size)));have aa:=yP ((∀k,k<w.heap.size->w2.heap[k]? =w.heap[k]?)/\w.heap.size<=w2.heap.size) ⟨fun k z=>(S.block k (qQv z af.out.2)).trans (af.out.1 k z),qP4 af.out.2 S.size⟩;clear y0 y1 y2 y3 S H0;go_wp2;obtain⟨E,hE⟩:=zB w.heap.size;rw[hE]at LA LO LN H2 b8⊢;have H3:=zH (H2.out.below ((yN _ w2).drew));refine zS [10] (fun q=>GW f b n q B D g E d rs r) [0,1,0,4,8,16,0,64,128,256,546,1024,2048,2048,8191,32767] 16<|zu 2 14 (qY (qw ⟨g,r*7,qx⟩))<|zu 3 15 (qY (qw ⟨g,r*7,qx⟩))<|zu 4 16 (qY (qw ⟨g,r*7+1,qx⟩))<|zu 6 18 (qY (qw ⟨g,r*7,qx⟩))<|zu 7 19 (qY (qw ⟨g,r*7,qx⟩))<|zu 8 20 (qY (qw ⟨g,r*7+2,qx⟩))<|zy 5 17 (qV qj (x.o:Int)) (fun w hS=>zl 3 16 (LO.out w hS)) H3.out<|zy 9 21 (qV qj (x.n:Int)) (fun w hS=>zl 3 20 (LN.out w hS)) H3.out<|zp [0]<|zt 12 (.agg #[qY (qw ⟨D,0,qx⟩),qV qj (r:Int)]) ((fun w hS=>zl 254 2 (LA.out w hS)) _ (H3.out))<|zn<|zx 1 13 256 #[.agg #[qY (qw ⟨D,0,qx⟩),qV qj (r:Int)]] (aq.out _ H3.out.aw)<| ?_
 rintro e w4 ⟨rfl,u⟩;have H4:=zH (H3.out.below u);refine⟨_,rfl,.inr (.inr H4.out),?_⟩;refine zx 10 22 288 #[enV en,qV qj (x.o:Int),qV qj (x.n:Int)] (HP.out _)<| ?_
 rintro e w5 ⟨rfl,K⟩;have H5:=zH (H4.out.below K);refine⟨_,rfl,.inr (.inl zf),?_⟩;refine zp [11,12,13,14,15]<|zk 11 (qZ #[qV qj (pf:Int),qV qj (pt:Int)])<|zk 23 (zI pf)<|zk 24 (zI pt)<|zk 7 (zI pf)<|zk 8 (zI pt)<|zn<|zE<| ?_
 simp only[zP,zI,Act.put,qPz,qPy,qP0];have b6:pf<=pt:=by rw[<-ah,<-V];unfold paF paT;omega
 have bc:pt<=a.size:=by rw[<-V,<-a1,hl];exact hp
 obtain⟨m,ae⟩:=zB (x.got++a.extract pf pt);have av:x.got.size+(a.extract pf pt).size<=9223372036854775807:=by rw[qS2];omega
 go_wp2;have H6:=zH (H5.out.below ((yN _ w5).drew));have LG:=zH (yh (P:=yG) (t:=9) (H6.out.aw.at r x hx).2.2.2.2.2.1 zf zf);obtain⟨cb,ap⟩:=H6.out.aw.row;have ai:=Kit.zDs (P:=yG) (t:=9) (v:=qW m) (H6.out.aw.at r x hx).2.2.2.2.2.1 (qH9 ap _) zf rfl rfl;obtain⟨w7,a3⟩:=zB (w5.drew.setCells g (r*7+5) [qW m]);rw[show w5.drew.setCell ⟨g,r*7+5,qx⟩ (qW m)=w7 from a3]at ai;obtain⟨ak,ar,a5⟩:=H6.out.aw.qJ r hr x ⟨x.st,x.o,x.n,x.b,x.l,m,x.txt⟩ hx 5 z8 (qW m) rfl;rw[a3]at ak ar a5;have H7:=yP (GW f b n w7 B D g E d (rs.set r ⟨x.st,x.o,x.n,x.b,x.l,m,x.txt⟩) r) ⟨ak,(a5 _ _ _ H6.out.bx z8).trans H6.out.bx,(a5 _ _ _ H6.out.z1 z8).trans H6.out.z1⟩;refine zS [] (fun _=>True) [0,1,2,4,0,0,0,112,136,511,1023,1535] 12<|zp [0,1,2,3,4,5,6,7,8,9,10]<|zk 25 (qY (qw ⟨g,r*7,qx⟩))<|zk 26 (qY (qw ⟨g,r*7,qx⟩))<|zk 27 (qY (qw ⟨g,r*7+5,qx⟩))<|zt 28 (qW x.got) (zl 9 27 LG.out)<|zk 29 (qW a)<|zk 30 (zI pf)<|zk 31 (zI pt)<|zt 32 (qW (a.extract pf pt)) (qN2 (t:=9) (x:= .tmp 29) (lo:= .tmp 30) (hi:= .tmp 31) rfl zf zf zf zf b6 bc)<|zt 33 (qW m) (ae▸qLp (t:=9) (x:= .tmp 28) (y:= .tmp 32) rfl zf zf av)<|zk 34 (qY (qw ⟨g,r*7,qx⟩))<|zk 35 (qY (qw ⟨g,r*7+5,qx⟩))<|zn<|zw 11 qx (zr 9 35 33 (ai)) (.inr (.inr trivial))<|zE<| ?_
 simp only[zP,zI,Act.put,qPz,qPy,qP0];have b7:=yP (yI B w w7) (by
  have b1:=az.out.size;have b2:=u.size;have b3:=K.size;have b4:w2.drew.heap.size=w2.heap.size:=rfl;exact(((az.out.drew.trans (u.mono za)).trans (K.mono za)).drew).trans ar)
 have b9:=yP ((∀k,k<w.heap.size->w5.heap[k]? =w.heap[k]?)/\w.heap.size<=w5.heap.size) ⟨fun k z=>(K.block k (qQv z (qP4 aa.out.2 u.size))).trans ((u.block k (qQv z aa.out.2)).trans (aa.out.1 k z)),qP4 aa.out.2 (qP4 u.size K.size)⟩;have bo:=yP (∀k,k<w.heap.size->k≠g->w7.heap[k]? =w.heap[k]?) (fun k z br=>(by rw[<-a3];exact xB _ w5.drew _ _ k br:w7.heap[k]? =w5.heap[k]?).trans (b9.out.1 k z));have bk:=yP (w.heap.size<=w7.heap.size) (by rw[<-a3,xC];exact b9.out.2);have ba:(rs.set r ⟨x.st,x.o,x.n,x.b,x.l,m,x.txt⟩)[r]? =qw ⟨x.st,x.o,x.n,x.b,x.l,m,x.txt⟩:=by
  rw[qSv,qPr rfl,qPr (by have:=h_lt hx;exact this)]
 obtain⟨bz,a7⟩:=H7.out.aw.row;have c7:=(H7.out.aw.at r _ ba).2.2.2.2.2.2;have f7:=qH9 a7 (r*7+6);obtain⟨a8,a6,a9⟩:=H7.out.aw.qJ r hr _ ⟨x.st,x.o,x.n,x.b,x.l,m,⟨#[]⟩⟩ ba 6 z8 (qW ⟨#[]⟩) rfl;obtain⟨l,Y⟩:=zB (w7.setCells g (r*7+6) [qW ⟨#[]⟩]);rw[Y]at a8 a6 a9;rw[List.set_set]at a8;have N8:=(show GW f b n l B D g E d (rs.set r ⟨x.st,x.o,x.n,x.b,x.l,m,⟨#[]⟩⟩) r from⟨a8,(a9 _ _ _ H7.out.bx z8).trans H7.out.bx,(a9 _ _ _ H7.out.z1 z8).trans H7.out.z1⟩);have M8:=zH N8;have Z:=yP ((∀k,k<w.heap.size->k≠g->l.heap[k]? =w.heap[k]?)/\w.heap.size<=l.heap.size) ⟨fun k z br=>(by rw[<-Y];exact xB _ w7 _ _ k br:l.heap[k]? =w7.heap[k]?).trans (bo.out k z br),by rw[<-Y,xC];exact bk.out⟩;rw[hE]at Z;have bn:=yP (yI B w l) (b7.out.trans a6);have H8:=zH (N8.below ((yN _ l).drew));have bj:=yP (yI B w l.drew) (b7.out.trans a6).drew;have s:(rs.set r ⟨x.st,x.o,x.n,x.b,x.l,m,⟨#[]⟩⟩)[r]? =qw ⟨x.st,x.o,x.n,x.b,x.l,m,⟨#[]⟩⟩:=by
  rw[qSv,qPr rfl,qPr (h_lt hx)]
 obtain⟨L3,L4⟩:=yQ (yh (P:=yG) (t:=3) (H8.out.aw.at r _ s).2.2.2.1 zf zf) (yh (P:=yG) (t:=3) (H8.out.aw.at r _ s).2.2.2.2.1 zf zf);have ao:=ae;clear ai a3 ak ar a5 ap a7 a8 a6 a9 N8 u K ae av b6 bc;go_wp2;rw[show w7.setCell ⟨g,r*7+6,qx⟩ (qW ⟨#[]⟩)=l from Y];clear c7 f7 Y;refine zS [] (fun _=>True) [0,1,2,4,0,16,32,64,136] 9<|zp [0,1,2,3,4,5,6,7,8]<|zk 39 (qY (qw ⟨g,r*7,qx⟩))<|zk 40 (qY (qw ⟨g,r*7,qx⟩))<|zk 41 (qY (qw ⟨g,r*7+3,qx⟩))<|zt 42 (qV qj (x.b:Int)) (zl 3 41 (L3.out))<|zk 43 (qY (qw ⟨g,r*7,qx⟩))<|zk 44 (qY (qw ⟨g,r*7,qx⟩))<|zk 45 (qY (qw ⟨g,r*7+4,qx⟩))<|zt 46 (qV qj (x.l:Int)) (zl 3 45 (L4.out))<|zk 47 (qc (yF ((x.b:Int)=(x.l:Int))))<|zn<|zE<| ?_
 simp only[zP,zI,Act.put,qPz,qPy,qP0];obtain⟨v0,v1,v2,v3,v4,v5,v6⟩:=H8.out.aw.at r _ s;obtain⟨c6,j⟩:=H8.out.aw.row;by_cases hq:x.b=x.l
 ·have bq:(x.b:Int)=(x.l:Int):=za
  obtain⟨cc,ac⟩:∃cc:Int,(if X<x.o+x.n then 8 else 0)=cc:=⟨_,rfl⟩;have ag:cc=0\/cc=8:=by rw[<-ac];split<;>simp
  obtain⟨b0,bh⟩:=yQ (fun w' (hw:AW f b n w' B D g d (rs.set r ⟨x.st,x.o,x.n,x.b,x.l,m,⟨#[]⟩⟩))=>qLe f n X b PP hX d hw.dm.en hw.dm.ic x.o x.n ho hm w' hw.dm.idx) (fun w' (bw:B<=w'.heap.size) (hw:AW f b n w' B D g d (rs.set r ⟨x.st,x.o,x.n,x.b,x.l,m,⟨#[]⟩⟩))=>zFr f n b B D g d _ r _ s hr cc ag w' bw hw);rw[ac]at b0;clear ag;have O:¬(g=E+1):=fun e=>by
   have h1:=H8.out.z1;rw[<-e,j]at h1;exact absurd (qRf (qPv h1)).2.1 z8
  clear v0 v1 v2 v3 v4 v5 v6;go_wp2;have H9:=zH (H8.out.below ((yN _ l.drew).drew));have aj:=yP (yI B w l.drew.drew) bj.out.drew;refine zS [14,18] (fun q=>GW f b n q B D g E d (rs.set r ⟨x.st,x.o,x.n,x.b,x.l,m,⟨#[]⟩⟩) r) [0,0,2,4,8,0,32,64,128,0,512,1024,2048,4368,8193,16384,16384,131071,262143] 19<|zy 0 48 (.agg #[qY (qw ⟨D,0,qx⟩),qV qj (r:Int)]) (fun w hS=>zl 254 2 (qKf hS.bx)) H9.out<|zp [1,2,3,4,5,6,7,8,9,10,11,12]<|zk 49 (zP E 0)<|zt 50 (zP D 0) ((fun w hS=>zl 252 49 (qJg hS.bx)) _ (H9.out))<|zk 51 (zP D 0)<|zt 52 d.v ((fun w hS=>zl 39 51 (ld7 hS.aw.blk)) _ (H9.out))<|zk 53 (qY (qw ⟨g,r*7,qx⟩))<|zk 54 (qY (qw ⟨g,r*7,qx⟩))<|zk 55 (qY (qw ⟨g,r*7+1,qx⟩))<|zt 56 (qV qj (x.o:Int)) ((fun w hS=>zl 3 55 (yh (hS.aw.at r _ s).2.1 zf zf)) _ (H9.out))<|zk 57 (qY (qw ⟨g,r*7,qx⟩))<|zk 58 (qY (qw ⟨g,r*7,qx⟩))<|zk 59 (qY (qw ⟨g,r*7+2,qx⟩))<|zt 60 (qV qj (x.n:Int)) ((fun w hS=>zl 3 59 (yh (hS.aw.at r _ s).2.2.1 zf zf)) _ (H9.out))<|zn<|zx 13 61 145 #[d.v,qV qj (x.o:Int),qV qj (x.n:Int)] (b0.out _ H9.out.aw)<| ?_
  rintro e w9 ⟨rfl,i⟩;have H:=zH (H9.out.below i);refine⟨_,rfl,.inr (.inr H.out),?_⟩;refine zx 14 62 257 #[.agg #[qY (qw ⟨D,0,qx⟩),qV qj (r:Int)],qV qj cc] (bh.out _ (qP4 bu (qP4 aj.out.size i.size)) H.out.aw)<| ?_
  rintro e I ⟨rfl,L,N,c⟩;obtain⟨b5,ad,am,ab,au,F⟩:=qKy (u':=qW m) (v':=qV qj cc) ((c (E+1) (zAd H.out.z1) (fun e=>O e.symm)).trans H.out.z1) (by simp[Value.oneCell']);refine⟨_,rfl,.inr (.inl zf),?_⟩;refine zp [15,16,17]<|zk 63 (qc yD)<|zk 64 (.agg #[qW m,qV qj cc])<|zk 4 (qc yD)<|zn<|zw 18 qx (zr 44 5 64 (ad)) (.inr (.inl zf))<|zE<| ?_
  simp only[zP,zI,Act.put,qPz,qPy,qP0];go_wp2
  all_goals
   refine qP5 (v:=qZ #[qc yD,.agg #[qW m,qV qj cc]]) ?_ rfl ?_
   ·exact qIp (t:=4) (p:=5) rfl _ _ _ ⟨E+1,0,qx⟩ _ rfl (qIv am)
   ·have ax:=L.far ((c (E+1) (zAd H.out.z1) (fun e=>O e.symm)).trans H.out.z1) z8 z8 z8 z8 F;rw[List.set_set]at ax;have bd:yI B w b5:=((aj.out.trans (i.mono (qP4 bu aj.out.size))).trans N).trans (ab B za);have e2:paT x.o x.n en.f a.size=pt:=by rw[<-V,<-a1,hl]
    refine⟨?_,ax,bd,fun k z br=>(F k za).trans ((c k (qQv z (qP4 Z.out.2 i.size)) br).trans ((i.block k (qQv z Z.out.2)).trans (Z.out.1 k z br)))⟩;rw[<-hq,a1,ah,e2,ao]
    first|rw[show cc=8 by rw[<-ac,qPr za]]|rw[show cc=0 by rw[<-ac,qPt za]]
 ·have bq:¬((x.b:Int)=(x.l:Int)):=za
  have f0:=qH9 j (r*7);have f3:=qH9 j (r*7+3);obtain⟨z0,z1,z2,z3⟩:=qIa H8.out.z1;have O:¬(g=E+1):=fun e=>by
   have h1:=H8.out.z1;rw[<-e,j]at h1;exact absurd (qRf (qPv h1)).2.1 z8
  have ca:¬(E+1=g):=fun e=>O e.symm;have cg:(x.b:Int)<1000:=za
  have c8:(0:Int)<=(x.b:Int):=za
  simp only at v0 v1 v2 v3 v4 v5 v6;clear v1 v2 v4 v5 v6 HS aq HP LA LO LN LC;have cj:l.cell? ⟨g,r*7,qx⟩=qw (qV qj (x.st:Int)):=v0;have ck:l.cell? ⟨g,r*7+3,qx⟩=qw (qV qj (x.b:Int)):=v3;have cd:l.frozen? ⟨g,r*7,qx⟩=yE:=f0;have ce:l.frozen? ⟨g,r*7+3,qx⟩=yE:=f3;have cm:l.cell? ⟨E+1,0,qx⟩=qw (qW ⟨#[]⟩):=z0;have cn:l.cell? ⟨E+1,1,qx⟩=qw (qV qj 0):=z1;have co:l.frozen? ⟨E+1,0,qx⟩=yE:=z2;have cp:l.frozen? ⟨E+1,1,qx⟩=yE:=z3;go_wp2
  all_goals
   have A8:=M8.out.aw;obtain⟨ay,i,bb⟩:=A8.qJ r hr _ ⟨x.st,x.o,x.n,x.b+1,x.l,m,⟨#[]⟩⟩ s 3 z8 (qV qj ((x.b:Int)+1)) rfl;obtain⟨w9,a4⟩:=zB (l.setCells g (r*7+3) [qV qj ((x.b:Int)+1)]);rw[a4,List.set_set]at ay;rw[a4]at i bb;obtain⟨L,N,c⟩:=ay.qJ r hr ⟨x.st,x.o,x.n,x.b+1,x.l,m,⟨#[]⟩⟩ ⟨1,x.o,x.n,x.b+1,x.l,m,⟨#[]⟩⟩ (by rw[qSv,qPr rfl,qPr (h_lt hx)]) 0 z8 (qV qj 1) rfl;obtain⟨I,M⟩:=zB (w9.setCells g (r*7+0) [qV qj 1]);rw[M,List.set_set]at L;rw[M]at N c;have q8:l.heap[E+1]? =qw (Obj.cells #[qW ⟨#[]⟩,qV qj 0] TRp (0,0)):=H8.out.z1;have q9:=(bb _ _ _ q8 z8).trans q8;have an:=(c _ _ _ q9 z8).trans q9;obtain⟨b5,ad,am,ab,au,F⟩:=qKy (u':=qW ⟨#[]⟩) (v':=qV qj 0) an (by simp[Value.oneCell']);obtain⟨G,R⟩:=zB (I.setCells (E+1) 0 [qW ⟨#[]⟩,qV qj 0]);have bf:yI B w G:=by rw[<-R];exact yt _ _ 0 ((bn.out.trans i).trans N) za
   have a2:∀k,k≠E+1->G.heap[k]? =I.heap[k]? :=fun k z=>by rw[<-R];exact xB _ I _ _ k z
   have bg:G.heap[E+1]? =qw (Obj.cells #[qW ⟨#[]⟩,qV qj 0] TRp (0,0)):=by
    have h7:=xQ [qW ⟨#[]⟩,qV qj 0] I (E+1) 0 _ _ _ an;rw[show xI #[qW ⟨#[]⟩,qV qj 0] 0 [qW ⟨#[]⟩,qV qj 0]= #[qW ⟨#[]⟩,qV qj 0]by simp[xI]]at h7;rw[<-R];exact h7
   have bp:=(L.far an z8 z8 z8 z8 a2).below ((yN _ G).drew);have bi:(loadVar TRp ⟨E+1,0,qx⟩).run yG G.drew= .ok (.agg #[qW ⟨#[]⟩,qV qj 0]) G.drew:=qIv bg;rw[show((((l.setCell ⟨g,r*7+3,qx⟩ (qV qj ((x.b:Int)+1))).setCell ⟨g,r*7,qx⟩ (qV qj 1)).setCell ⟨E+1,0,qx⟩ (qW ⟨#[]⟩)).setCell ⟨E+1,1,qx⟩ (qV qj 0))=G from by rw[<-R,<-M,<-a4];rfl];refine qP5 (v:=qZ #[qc yE,.agg #[qW ⟨#[]⟩,qV qj 0]]) ?_ rfl ?_
   ·exact qIp (t:=4) (p:=5) rfl _ _ _ ⟨E+1,0,qx⟩ _ rfl bi
   ·refine⟨rfl,?_,bf.drew,fun k z br=>(a2 k za).trans ((by rw[<-M];exact xB _ w9 _ _ k br:I.heap[k]? =w9.heap[k]?).trans ((by rw[<-a4];exact xB _ l _ _ k br:w9.heap[k]? =l.heap[k]?).trans (Z.out.1 k z br)))⟩;have e2:paT x.o x.n en.f a.size=pt:=by rw[<-V,<-a1,hl]
    rw[e2,ao];exact bp
end Sk
namespace Sk
open Hf Bt Zr Sq Sm Ix2
variable {lev n o j X dec0 m l dec:Nat}
structure Dd where
 sh:yx
 dec:Nat
 r:Rr
 dn:Bool
 tx:ByteArray
 c:Int
def gT (b:List T) (x:Rr) (a:ByteArray):ByteArray:=x.got++a.extract (paF x.o (qH8 b x.b)) (paT x.o x.n (qH8 b x.b) a.size)
@[irreducible] def gets (b:List T) (X:Nat) (sh:yx) (dec:Nat) (x:Rr) (a:ByteArray):Dd:=
 if x.b=x.l then⟨sh,dec,free,yD,gT b x a,if X<x.o+x.n then 8 else 0⟩else⟨sh,dec,⟨1,x.o,x.n,x.b+1,x.l,gT b x a,⟨#[]⟩⟩,yE,⟨#[]⟩,0⟩
@[irreducible] noncomputable def deed (a:List T) (X:Nat) (sh:yx) (dec:Nat) (x:Rr):Dd:=
 if x.st=1 then
  if(xH sh (x.b:Int)).2.2=0 then gets a X (xH sh (x.b:Int)).2.1 dec x (xH sh (x.b:Int)).1
  else⟨sh,dec,⟨2,x.o,x.n,x.b,x.l,x.got,x.txt⟩,yE,⟨#[]⟩,0⟩
 else if x.st=2 then⟨sh,min (dec+1) 1099511627776,⟨3,x.o,x.n,x.b,x.l,x.got,yw (a.getD x.b [])⟩,yE,⟨#[]⟩,0⟩
 else gets a X (if(xK sh (x.b:Int) x.txt).2.2=0 then(xK sh (x.b:Int) x.txt).2.1 else sh) dec x x.txt
abbrev gP (ps:List T) (k:Nat):ByteArray:=yw (ps.getD k [])
theorem zX1 (a:List T) (k q:Nat) (d:k<kG a) (f:q<=kG (a.getD k [])):a.flatten.take (qH8 a k+q)=a.flatten.take (qH8 a k)++(a.getD k []).take q:=by
 have e:a.flatten=(a.take k).flatten++((a.getD k [])++(a.drop (k+1)).flatten):=by
  have b:a=a.take k++(a[k]::a.drop (k+1)):=by rw[List.getElem_cons_drop,qR9]
  have c:a.getD k []=a[k]:=by rw[qPw,qPu d];rfl
  rw[c]
  conv=>lhs;rw[b]
  rw[qRz,qS0]
 rw[e];unfold qH8;rw[List.take_length_add_append,List.take_left,qUn f]
theorem qNl (a:List T) (k o q:Nat) (b:k<kG a) (d:q<=kG (a.getD k [])):
  yw ((a.flatten.take (qH8 a k)).drop o)++(gP a k).extract (paF o (qH8 a k)) q=yw ((a.flatten.take (qH8 a k+q)).drop o):=by
 apply Rle.zQ6;have c:kG (a.flatten.take (qH8 a k))=qH8 a k:=by rw[qQh];have:=qJb a k;omega
 rw[Rle.qJ9,Rle.zI0,xu,xu,xu,zX1 a k q b d,List.drop_append,c];rfl
structure Wo (n:Nat) (sh:yx) (dec:Nat):Prop where
 room:(n:Int)<=sh.room
 cnt:kG sh.held=dec
structure WW (sh0:yx) (dec0 j l b e:Nat) (sh:yx) (dec:Nat):Prop where
 clk:sh.clock+(j:Int)<=sh0.clock+(b:Int)
 old:∀k,xY sh0 k->xY sh k
 new:∀k,j<=k->k<b->xY sh k
 cnt:kG sh.held+e=dec
 idle:(∀k,j<=k->k<=l->xY sh0 k)->dec=dec0
structure J (lev:Nat) (ps:List T) (n X:Nat) (sh0:yx) (dec0 o m j l:Nat) (sh:yx) (dec:Nat) (x:Rr):Prop where
 wk:Wk lev ps n X x j
 eo:x.o=o
 en:x.n=m
 el:x.l=l
 got:x.got=yw ((ps.flatten.take (qH8 ps x.b)).drop o)
 txt:x.st=3->x.txt=gP ps x.b
 si:xU (gP ps) n sh
 room:sh.room=sh0.room
 dm:dec<=1099511627776
 wo:Wo n sh0 dec0->sh0.clock+1001<=1099511627776->dec0<=1000->WW sh0 dec0 j l x.b (if x.st=3 then 1 else 0) sh dec/\(2<=x.st->¬xY sh x.b)
structure Fin (lev:Nat) (ps:List T) (n X:Nat) (sh0:yx) (dec0 j l:Nat) (sh:yx) (dec:Nat):Prop where
 si:xU (gP ps) n sh
 room:sh.room=sh0.room
 dm:dec<=1099511627776
 wo:Wo n sh0 dec0->sh0.clock+1001<=1099511627776->dec0<=1000->WW sh0 dec0 j l (l+1) 0 sh dec
def meas (x:Rr):Nat:=4*(x.l-x.b)+(3-x.st)
def Next (lev:Nat) (a:List T) (n X:Nat) (b:yx) (dec0 o m j l:Nat) (x:Rr) (q:Dd):Prop:=
 (q.dn=yE/\J lev a n X b dec0 o m j l q.sh q.dec q.r/\meas q.r<meas x)\/
 (q.dn=yD/\q.r=free/\q.tx=yw ((a.flatten.drop o).take m)/\q.c=(if X<o+m then 8 else 0)/\Fin lev a n X b dec0 j l q.sh q.dec)
theorem In.len {a:List T} (P:Ps lev a n) (h:In a n o j):j<kG a:=by rw[P.len];exact h.lt
theorem qJ5 {d:List T} (P:Ps lev d n) (y:kG d.flatten=X) {e:yx} {x:Rr} (h:Wk lev d n X x j) (g:x.o=o) (q:x.n=m) (w:x.l=l) (I:x.got=yw ((d.flatten.take (qH8 d x.b)).drop o))
  {sh:yx} {dec:Nat} (B:xU (gP d) n sh) (t:sh.room=e.room) (u:dec<=1099511627776) (wo:Wo n e dec0->e.clock+1001<=1099511627776->dec0<=1000->WW e dec0 j l (x.b+1) 0 sh dec):
  Next lev d n X e dec0 o m j l x (gets d X sh dec x (gP d x.b)):=by
 have z:x.b<kG d:=by rw[P.len];have:=h.b1;have:=h.lst.lt;omega
 have s:(gP d x.b).size=kG (d.getD x.b []):=Rle.zCh _;have N:=qI2 d x.b z;have L:=qJb d (x.b+1);have F:=h.lst.lo;have G:=h.lst.hi;have O:=h.fst.hi;have R:=h.m0;have S:=h.ox;have V:=qIq d (j:=j+1) (k:=x.b+1) (by have:=h.b0;omega) za;have M:=h.b1;have K:paT x.o x.n (qH8 d x.b) (gP d x.b).size<=kG (d.getD x.b []):=by rw[s];unfold paT;omega
 have p:gT d x (gP d x.b)=yw ((d.flatten.take (qH8 d x.b+paT x.o x.n (qH8 d x.b) (gP d x.b).size)).drop o):=by
  unfold gT;rw[I,<-g];exact qNl d x.b x.o _ z K
 unfold gets;by_cases i:x.b=x.l
 ·rw[qPr i];refine .inr ⟨rfl,rfl,?_,?_,B,t,u,fun a b c=> ?_⟩
  ·show gT d x _=_;rw[p,s];congr 1;rw[<-i]at F G;rw[<-g,<-q];rcases qP8 X (x.o+x.n)with H|H
   ·have f:qH8 d x.b+paT x.o x.n (qH8 d x.b) (kG (d.getD x.b []))=X:=by unfold paT;omega
    rw[f,<-y,qTg,qQg (by rw[qQn,y];omega)]
   ·have f:qH8 d x.b+paT x.o x.n (qH8 d x.b) (kG (d.getD x.b []))=x.o+x.n:=by unfold paT;omega
    rw[f,List.drop_take];congr 1;omega
  ·show(if X<x.o+x.n then(8:Int)else 0)=_;rw[g,q]
  ·have:=wo a b c;rw[i,w]at this;exact this
 ·rw[qPt i];have W:=qIq d (j:=x.b+1) (k:=x.l) za (by have:=P.len;have:=h.lst.lt;omega);have f:qH8 d x.b+paT x.o x.n (qH8 d x.b) (gP d x.b).size=qH8 d (x.b+1):=by rw[s];unfold paT;omega
  rw[f]at p;refine .inl ⟨rfl,⟨⟨qPq _,(by decide:(1:Nat)<=3),h.m0,h.m1,h.ox,h.fst,h.lst,by show j<=x.b+1;have:=h.b0;omega,by show x.b+1<=x.l;omega,?_,rfl⟩,g,q,w,p,fun r=>absurd (show(1:Nat)=3 from r) z8,B,t,u,fun a b c=>⟨wo a b c,fun r=>absurd (show(2:Nat)<=1 from r) z8⟩⟩,?_⟩
  ·show(gT d x _).size=qH8 d (x.b+1)-x.o;rw[p,Rle.zCh,qQn,qQh,g];omega
  ·show 4*(x.l-(x.b+1))+(3-1)<4*(x.l-x.b)+(3-x.st);have:=h.s3;omega
theorem J.next {p:List T} (P:Ps lev p n) (z:kG p.flatten=X) {G:yx} {sh:yx} {x:Rr} (h:J lev p n X G dec0 o m j l sh dec x):
  Next lev p n X G dec0 o m j l x (deed p X sh dec x):=by
 have L:x.b<n:=by have:=h.wk.b1;have:=h.wk.lst.lt;omega
 have hn:=P.many;have f:=h.wk.b0;have V:=h.wk.b1;have W:=h.el;unfold deed;by_cases H:x.st=1
 ·rw[qPr H];by_cases i:(xH sh (x.b:Int)).2.2=0
  ·rw[qPr i];obtain⟨N,u,w,y,s,t,O⟩:=h.si.take L i;rw[N];refine qJ5 P z h.wk h.eo h.en h.el h.got u (w.trans h.room) h.dm fun a b c=> ?_;obtain⟨g,w2⟩:=h.wo a b c;have c1:=g.clk;have c2:=g.cnt;rw[qPt za]at c2;refine⟨by rw[y];omega,fun k q=>(s k).2 (g.old k q),fun k q M=>(s k).2 ?_,za,g.idle⟩;by_cases d:k=x.b
   ·rw[d];exact t
   ·exact g.new k q za
  ·rw[qPt i];refine .inl ⟨rfl,⟨⟨(by decide:(1:Nat)<=2),(by decide:(2:Nat)<=3),h.wk.m0,h.wk.m1,h.wk.ox,h.wk.fst,h.wk.lst,h.wk.b0,h.wk.b1,h.wk.got,?_⟩,h.eo,h.en,h.el,h.got,fun B=>absurd (show(2:Nat)=3 from B) z8,h.si,h.room,h.dm,fun a b c=> ?_⟩,?_⟩
   ·have:=h.wk.txt;rw[qPt za]at this;exact this
   ·obtain⟨g,w2⟩:=h.wo a b c;have c1:=g.clk;have c2:=g.cnt;rw[qPt za]at c2;refine⟨⟨c1,g.old,g.new,c2,g.idle⟩,fun _=> ?_⟩;rcases Cache.qKn h.si.rgt (x.b:Int)with⟨F,_⟩|⟨_,r|r⟩
    ·exact absurd F i
    ·exact Cache.qNk r
    ·have:sh.clock=1099511627776:=r;omega
   ·show 4*(x.l-x.b)+(3-2)<4*(x.l-x.b)+(3-x.st);omega
 ·rw[qPt H];by_cases I:x.st=2
  ·rw[qPr I];refine .inl ⟨rfl,⟨⟨(by decide:(1:Nat)<=3),(by decide:(3:Nat)<=3),h.wk.m0,h.wk.m1,h.wk.ox,h.wk.fst,h.wk.lst,h.wk.b0,h.wk.b1,h.wk.got,?_⟩,h.eo,h.en,h.el,h.got,fun _=>rfl,h.si,h.room,by show min _ _<=_;omega,fun a b c=> ?_⟩,?_⟩
   ·show(gP p x.b).size=_;rw[qPr rfl];exact Rle.zCh _
   ·obtain⟨g,w2⟩:=h.wo a b c;have c2:=g.cnt;rw[qPt za]at c2;have e:=w2 za;have S:kG sh.held<=64:=by have Y:=h.si.rgt.2.2.2.2.1;have Z:=h.si.rgt.2.1;omega
    refine⟨⟨g.clk,g.old,g.new,?_,fun B=>absurd (g.old x.b (B x.b f za)) e⟩,fun _=>e⟩;refine Eq.trans (b:=kG sh.held+1) rfl ?_;rw[show kG sh.held=dec by omega];exact(qTs za).symm
   ·show 4*(x.l-x.b)+(3-3)<4*(x.l-x.b)+(3-x.st);omega
  ·rw[qPt I];have K:x.st=3:=by have:=h.wk.s1;have:=h.wk.s3;omega
   have R:=h.txt K;rw[R];by_cases i:(xK sh (x.b:Int) (gP p x.b)).2.2=0
   ·rw[qPr i];obtain⟨u,w,y,s⟩:=h.si.keep L i;refine qJ5 P z h.wk h.eo h.en h.el h.got u (w.trans h.room) h.dm fun a b c=> ?_;obtain⟨g,w2⟩:=h.wo a b c;have c1:=g.clk;have c2:=g.cnt;rw[qPr K]at c2;obtain⟨t,O⟩:=s (by rw[h.room];exact a.room) (w2 za);refine⟨by rw[y];omega,fun k q=>(t k).2 (.inr (g.old k q)),fun k q M=>(t k).2 ?_,za,g.idle⟩;by_cases d:k=x.b
    ·exact .inl d
    ·exact .inr (g.new k q za)
   ·rw[qPt i];refine qJ5 P z h.wk h.eo h.en h.el h.got h.si h.room h.dm fun a b c=> ?_;obtain⟨g,w2⟩:=h.wo a b c;have c1:=g.clk;rcases Cache.qKs h.si.rgt (x.b:Int) za (gP p x.b)with⟨F,_⟩|⟨_,r⟩
    ·exact absurd F i
    ·have:sh.clock=1099511627776:=r;omega
theorem J.start {f:List T} {sh:yx} (y:xU (gP f) n sh) (r:dec<=1099511627776) (u:0<m) (w:m<1048576) (x:o<X) (g:In f n o j) (q:In f n (o+min m (X-o)-1) l) (z:kG f.flatten=X) (P:Ps lev f n):
  J lev f n X sh dec o m j l sh dec ⟨1,o,m,j,l,⟨#[]⟩,⟨#[]⟩⟩:=by
 have d:j<=l:=by
  rcases qP8 l j with h|h
  ·have s:=qIq f (j:=l+1) (k:=j) h (by have:=In.len P g;omega);have:=g.lo;have:=q.hi;omega
  ·exact h
 have i:=g.lo;have e:(f.flatten.take (qH8 f j)).drop o=[]:=by
  apply qQz;rw[qQn,qQh];omega
 refine⟨⟨qPq _,(by decide:(1:Nat)<=3),u,w,x,g,q,qPq _,d,?_,rfl⟩,rfl,rfl,rfl,?_,fun p=>absurd (show(1:Nat)=3 from p) z8,y,rfl,r,fun a b c=>⟨⟨Int.le_refl _,fun k t=>t,fun k s i=> ?_,a.cnt,fun _=>rfl⟩,fun p=>absurd (show(2:Nat)<=1 from p) z8⟩⟩
 ·show 0=qH8 f j-o;omega
 ·show(⟨#[]⟩:ByteArray)=_;rw[e];exact(Rle.qCh [])
 ·have i:k<j:=i;omega
end Sk
end Go.Proofs.YtppnakkaljbmbaaGreatDoor
