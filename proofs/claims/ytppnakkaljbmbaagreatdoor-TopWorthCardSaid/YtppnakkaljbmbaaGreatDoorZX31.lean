/- Steps of a proof; no condition beyond what each states. -/
import Derived.Test.YtppnakkaljbmbaaGreatDoorZX00
import Derived.Test.YtppnakkaljbmbaaGreatDoorZX30
set_option linter.unusedVariables false
set_option linter.unusedSimpArgs false
set_option maxRecDepth 100000
set_option maxHeartbeats 8000000
open List renaming length->kG
open Go.Proofs.YtppnakkaljbmbaaGreatDoor.Kit renaming zAg->yh,below_setCells->yt,zAo->xB,size_setCells->xC,spl->xI,zDl->xQ,zDa->xV,zHa->x9
open Go.Proofs.YtppnakkaljbmbaaGreatDoor.Crc renaming sum->yu,U->xD
open Go.Proofs.YtppnakkaljbmbaaGreatDoor.Cache renaming Sh->yx,take->xH,keep->xK,SI->xU,ShW->kC,Sx->kF
open Go.RowKit
open Go.Proofs.Tryz
open Go.Value renaming int->qV,string->qW,slice->qX,pointer->qY,tuple->qZ,bool->qc
open Go.IntKind renaming i64->qj
open Go.Obj renaming cells->qm
open Go.Ending renaming returned->qp
open Option renaming some->qw,none->qx
open Go renaming World->qy,Value->qz,TypeId->yA,Addr->yB,Calls->yC
open Bool renaming true->yD,false->yE
open Go.Proofs.Tryz renaming prog->yG
open Go.RowKit renaming Hid->yH,Below->yI
open Go.World renaming cell?->yM
open Go.RowKit.Below renaming refl->yN
open And renaming intro->yO
namespace Go.Proofs.YtppnakkaljbmbaaGreatDoor
namespace Sk
open Hf Bt Zr Ch Sq Tn Bk Sm Ix2 Sd
open Front (ival)
variable {w w0 W W' w':qy} {D g z lev n B E r R k pk:Nat} {a b c d e f c' d' e' u v:qz} {cs:Array qz} {t:yA} {pa:Option yB}
def Post (lev:Nat) (h:List T) (n B D g:Nat) (d:DV) (i:List Rr) (r:Nat) (q:Dd) (w:qy) (e:Ending) (w':qy):Prop:=
 ∃d',e=qp (qZ #[qc q.dn,.agg #[qW q.tx,qV qj q.c]])/\AW lev h n w' B D g d' (i.set r q.r)/\d'.sh=q.sh/\d'.dec=q.dec/\d'.a=d.a/\d'.m=d.m/\yI B w w'/\(∀k,k<w.heap.size->k≠g->k≠D->w'.heap[k]? =w.heap[k]?)
theorem qNy (lev n X:Nat) (i:List T) (B D g:Nat) (d:DV) (o:List Rr) (r j:Nat) (x:Rr) (O:o[r]? =qw x) (L:r<d.m) (P:Ps lev i n) (I:kG i.flatten=X) (h:Wk lev i n X x j) (w:qy) (H:B<=w.heap.size) (N:AW lev i n w B D g d o):
  yC yG 255 #[.agg #[qY (qw ⟨D,0,qx⟩),qV qj (r:Int)],qW (gP i x.b)] w (Post lev i n B D g d o r (gets i X d.sh d.dec x (gP i x.b)) w):=by
 have G:x.b<kG i:=by rw[P.len];have:=h.b1;have:=h.lst.lt;omega
 have M:(gP i x.b).size=kG (i.getD x.b []):=Rle.zCh _;have l:=qI2 i x.b G;have Z:=qJb i (x.b+1);have h3:=h.lst.lo;have h4:=h.lst.hi;have h5:=h.fst.hi;have h6:=h.m0;have h7:=h.ox;have h8:=qIq i (j:=j+1) (k:=x.b+1) (by have:=h.b0;omega) za;have Y:=P.all;have a1:=h.m1;have a0:=h.got;have K:=qNm lev n i B D g d o r x O L (by rw[<-P.len];exact G) P.many (gP i x.b) (by show qH8 i x.b<=_;omega) (by show(i.getD x.b []).length=_;omega) za za za (by show paT x.o x.n (qH8 i x.b) _<=_;rw[M];unfold paT;omega) za X P I w H N;refine K.mono ?_;rintro e w' ⟨S,V⟩;unfold gets;by_cases m:x.b=x.l
 ·obtain⟨p,q,s,y⟩:=V m;rw[qPr m];exact⟨d,p,q,rfl,rfl,rfl,rfl,s,fun k l F _=>y k l F⟩
 ·obtain⟨p,q,s,y⟩:=S m;rw[qPt m];exact⟨d,p,q,rfl,rfl,rfl,rfl,s,fun k l F _=>y k l F⟩
theorem qOe {g:qz} (h:w.heap[D]? =qw (qm #[a,b,c,d,e,f,g] TDk)) (m:∀z∈[c',d',e'],z.oneCell'=yD):
  (storeVar TSf ⟨D,2,qx⟩ (.agg #[c',d',e'])).run yG w= .ok () (w.setCells D 2 [c',d',e'])/\(w.setCells D 2 [c',d',e']).heap[D]? =qw (qm #[a,b,c',d',e',f,g] TDk)/\(∀B,B<=D->yI B w (w.setCells D 2 [c',d',e']))/\(∀k,k≠D->(w.setCells D 2 [c',d',e']).heap[k]? =w.heap[k]?):=by
 obtain⟨c0,c1,c2,c3,c4,c5,x⟩:=qH7 h;have i:=qSm (P:=yG) w D 2 TSf #[c',d',e'] (fun j p=>by
  have s:j<3:=p;refine⟨?_,qH9 h _⟩;obtain rfl|rfl|rfl:j=0\/j=1\/j=2:=za
  ·rw[show 2+0=2 from rfl,c2];rfl
  ·rw[show 2+1=3 from rfl,c3];rfl
  ·rw[show 2+2=4 from rfl,c4];rfl) zf (by simpa using m)
 have l:=xQ [c',d',e'] w D 2 _ _ _ h;rw[show xI #[a,b,c,d,e,f,g] 2 [c',d',e']= #[a,b,c',d',e',f,g]by simp[xI]]at l;exact⟨i,l,fun B o=>yt _ D 2 (yN _ w) o,fun k q=>xB _ w D 2 k q⟩
theorem qK9 {g:qz} (h:w.heap[D]? =qw (qm #[a,b,c,d,e,f,g] TDk)):(loadVar TSf ⟨D,2,qx⟩).run yG w= .ok (.agg #[c,d,e]) w:=by
 obtain⟨c0,c1,c2,c3,c4,c5,i⟩:=qH7 h;simp[loadVar,go_sem,c2,c3,c4]
abbrev ZSf:Array qz:= #[qV qj 0,qV qj 0,qX qx 0 0]
theorem qOt (h:w.heap[z]? =qw (qm #[a,b,c] TSf)) (l:∀v∈[c',d',e'],v.oneCell'=yD):
  (storeVar TSf ⟨z,0,qx⟩ (.agg #[c',d',e'])).run yG w= .ok () (w.setCells z 0 [c',d',e'])/\(w.setCells z 0 [c',d',e']).heap[z]? =qw (qm #[c',d',e'] TSf)/\(∀B,B<=z->yI B w (w.setCells z 0 [c',d',e']))/\(∀k,k≠z->(w.setCells z 0 [c',d',e']).heap[k]? =w.heap[k]?):=by
 have d:=qSm (P:=yG) w z 0 TSf #[c',d',e'] (fun j o=>by
  have q:j<3:=o;refine⟨?_,qH9 h _⟩;obtain rfl|rfl|rfl:j=0\/j=1\/j=2:=za
  ·simp[yM,h]
  ·simp[yM,h]
  ·simp[yM,h]) zf (by simpa using l)
 have i:=xQ [c',d',e'] w z 0 _ _ _ h;rw[show xI #[a,b,c] 0 [c',d',e']= #[c',d',e']by simp[xI]]at i;exact⟨d,i,fun B m=>yt _ z 0 (yN _ w) m,fun k p=>xB _ w z 0 k p⟩
structure LW (lev:Nat) (ps:List T) (n:Nat) (w0 W:qy) (B D g E:Nat) (d:DV) (rs:List Rr) (r:Nat):Prop where
 gw:GW lev ps n W B D g E d rs r
 bl:yI B w0 W
 sz:E+2<=W.heap.size
 be:B<=E
 kp:∀k,k<E->W.heap[k]? =w0.heap[k]?
theorem LW.below {j:List T} {d:DV} {l:List Rr} (h:LW lev j n w0 W B D g E d l r) (i:yI W.heap.size W W'):LW lev j n w0 W' B D g E d l r:=
 ⟨h.gw.below i,h.bl.trans (i.mono (by have:=h.sz;have:=h.be;omega)),qP4 h.sz i.size,h.be,fun k m=>(i.block k (by have:=h.sz;omega)).trans (h.kp k m)⟩
theorem LW.al {i:List T} {d:DV} {j:List Rr} (h:LW lev i n w0 W B D g E d j r) (o:Obj):LW lev i n w0 (W.alloc o) B D g E d j r:=h.below ((yN _ _).alloc (qPq _) _)
structure TW (lev:Nat) (ps:List T) (n:Nat) (w0 W:qy) (B D g E:Nat) (d:DV) (rs:List Rr) (r z:Nat) (c:yx) (pa:Option yB) (pk:Nat):Prop where
 lw:LW lev ps n w0 W B D g E d rs r
 zz:W.heap[z]? =qw (qm #[qV qj c.room,qV qj c.clock,qX pa (kG c.held) pk] TSf)
 ze:E+2<=z
 sh:kC W c pa pk
 sx:kF W (kG c.held) pa pk
theorem qN0 {f:Nat×Nat} {c:yx} {a:Option yB} (h:kC w c a k) (i:kF w (kG c.held) a k) (j:w.heap[R]? =qw (qm cs t f)) (hne:THd≠t) (l:∀k,k≠R->w'.heap[k]? =w.heap[k]?):kC w' c a k/\kF w' (kG c.held) a k:=
 ⟨⟨qI3.2 (qJm (qI3.1 h.src) i.ty j hne l),h.nil,h.wf⟩,i.cap,qJk i.ty j hne l⟩
theorem qKz {a:Option yB} (h:kF w n a k) (i:yI w.heap.size w w'):kF w' n a k:=⟨h.cap,Ty.below h.ty i⟩
theorem LW.put {j:List T} {d:DV} {l:List Rr} {c:yx} (h:LW lev j n w0 W B D g E d l r) (m:W.heap[z]? =qw (qm ZSf TSf)) (p:E+2<=z) (F:kC W c pa pk) (G:kF W (kG c.held) pa pk):
  (storeVar TSf ⟨z,0,qx⟩ (.agg #[qV qj c.room,qV qj c.clock,qX pa (kG c.held) pk])).run yG W= .ok () (W.setCells z 0 [qV qj c.room,qV qj c.clock,qX pa (kG c.held) pk])/\
   LW lev j n w0 (W.setCells z 0 [qV qj c.room,qV qj c.clock,qX pa (kG c.held) pk]) B D g E d l r/\TW lev j n w0 (W.setCells z 0 [qV qj c.room,qV qj c.clock,qX pa (kG c.held) pk]) B D g E d l r z c pa pk:=by
 obtain⟨q,s,x,i⟩:=qOt (c':=qV qj c.room) (d':=qV qj c.clock) (e':=qX pa (kG c.held) pk) m (by simp[Value.oneCell']);have o:LW lev j n w0 (W.setCells z 0 [qV qj c.room,qV qj c.clock,qX pa (kG c.held) pk]) B D g E d l r:=
  ⟨⟨h.gw.aw.far m z8 z8 z8 z8 i,(i E za).trans h.gw.bx,(i (E+1) za).trans h.gw.z1⟩,h.bl.trans (x B (by have:=h.be;omega)),by rw[xC];exact h.sz,h.be,fun k y=>(i k za).trans (h.kp k y)⟩
 obtain⟨s1,s2⟩:=qN0 F G m z8 i;exact⟨q,o,o,s,p,s1,s2⟩
def DV.shelf (d:DV) (c:yx) (pa:Option yB) (pk:Nat):DV:=⟨d.a,d.ip,d.n,d.ic,c,pa,pk,d.rp,d.m,d.rc,d.dec⟩
theorem TW.lay {m:List T} {d:DV} {p:List Rr} {c:yx} (h:TW lev m n w0 W B D g E d p r z c pa pk) (q:xU (gP m) n c):
  (storeVar TSf ⟨D,2,qx⟩ (.agg #[qV qj c.room,qV qj c.clock,qX pa (kG c.held) pk])).run yG W= .ok () (W.setCells D 2 [qV qj c.room,qV qj c.clock,qX pa (kG c.held) pk])/\
   GW lev m n (W.setCells D 2 [qV qj c.room,qV qj c.clock,qX pa (kG c.held) pk]) B D g E (d.shelf c pa pk) p r/\yI B w0 (W.setCells D 2 [qV qj c.room,qV qj c.clock,qX pa (kG c.held) pk])/\E+2<=(W.setCells D 2 [qV qj c.room,qV qj c.clock,qX pa (kG c.held) pk]).heap.size/\
   (∀k,k<E->k≠D->(W.setCells D 2 [qV qj c.room,qV qj c.clock,qX pa (kG c.held) pk]).heap[k]? =w0.heap[k]?):=by
 have o:=h.lw.gw.aw.blk;unfold DV.cl at o;obtain⟨x,y,F,l⟩:=qOe (c':=qV qj c.room) (d':=qV qj c.clock) (e':=qX pa (kG c.held) pk) o (by simp[Value.oneCell']);have b:E≠D:=fun e=>by
  have j:=h.lw.gw.bx;rw[e,h.lw.gw.aw.blk]at j;exact absurd (qRf (qPv j)).2.1 z8
 have a:E+1≠D:=fun e=>by
  have j:=h.lw.gw.z1;rw[e,h.lw.gw.aw.blk]at j;exact absurd (qRf (qPv j)).2.1 z8
 have i:=h.lw.gw.aw.dm;refine⟨x,⟨h.lw.gw.aw.qOo (d':=d.shelf c pa pk) y l rfl rfl rfl ⟨i.en,i.ic,i.idx,i.inil,h.sh,h.sx.cap,q.rgt,q.held,i.m1,i.m8,i.rc,i.dec,i.tI,h.sx.ty⟩,(l E b).trans h.lw.gw.bx,(l (E+1) a).trans h.lw.gw.z1⟩,h.lw.bl.trans (F B h.lw.gw.aw.lo),by rw[xC];exact h.lw.sz,fun k G s=>(l k s).trans (h.lw.kp k G)⟩
theorem qL9 {m:List T} {d:DV} {o:List Rr} (h:AW lev m n w B D g d o) (i:w.heap[k]? =qw (qm cs t)) (l:t≠TRr):k≠g:=fun e=>by
 obtain⟨p,j⟩:=h.row;rw[e,j]at i;exact l (qRf (qPv i)).2.1.symm
theorem qKk {l:List T} {d:DV} {m:List Rr} (h:AW lev l n w B D g d m) (i:w.heap[k]? =qw (qm cs t)) (j:t≠TDk):k≠D:=fun e=>by
 rw[e,h.blk]at i;exact j (qRf (qPv i)).2.1.symm
theorem qLt (h:w.heap[B]? =qw (qm #[a,b,c] t)):w.cell? ⟨B,0,qx⟩=qw a/\w.cell? ⟨B,1,qx⟩=qw b/\w.cell? ⟨B,2,qx⟩=qw c:=
 ⟨by simp[yM,h],by simp[yM,h],by simp[yM,h]⟩
theorem LW.start {l:List T} {d:DV} {m:List Rr} (h:AW lev l n w B D g d m) (r:Nat) (j:B<=w.heap.size):
  LW lev l n w ((w.alloc (qm #[qY (qw ⟨D,0,qx⟩),qV qj (r:Int)] TAt)).alloc (qm #[qW ⟨#[]⟩,qV qj 0] TRp)) B D g w.heap.size d m r:=by
 have i:yI w.heap.size w ((w.alloc (qm #[qY (qw ⟨D,0,qx⟩),qV qj (r:Int)] TAt)).alloc (qm #[qW ⟨#[]⟩,qV qj 0] TRp)):=((yN _ _).alloc (qPq _) _).alloc (by rw[zA];omega) _;exact⟨⟨h.below i,(Lib.alloc_old _ _ _ (by rw[zA];omega)).trans (zAh w _),by rw[<-zA w (qm #[qY (qw ⟨D,0,qx⟩),qV qj (r:Int)] TAt)];exact zAh _ _⟩,i.mono j,by rw[zA,zA];omega,j,fun k o=>i.block k o⟩
theorem LW.far {l:List T} {d:DV} {m:List Rr} {f:Nat×Nat} (h:LW lev l n w0 W B D g E d m r) (y:W.heap[R]? =qw (qm cs t f)) (F:E+2<=R) (p:TEn≠t) (q:THd≠t) (s:TRr≠t) (x:TDk≠t) (i:∀k,k≠R->W'.heap[k]? =W.heap[k]?) (j:∀D,D<=R->yI D W W'):LW lev l n w0 W' B D g E d m r:=
 ⟨⟨h.gw.aw.far y p q s x i,(i E za).trans h.gw.bx,(i (E+1) za).trans h.gw.z1⟩,h.bl.trans (j B (by have:=h.be;omega)),qP4 h.sz (j B (by have:=h.be;omega)).size,h.be,fun k o=>(i k za).trans (h.kp k o)⟩
structure FW (lev:Nat) (ps:List T) (n:Nat) (w0 W:qy) (B D g E:Nat) (d:DV) (rs:List Rr) (u v:qz):Prop where
 aw:AW lev ps n W B D g d rs
 z1:W.heap[E+1]? =qw (qm #[u,v] TRp)
 bl:yI B w0 W
 be:B<=E
 kp:∀k,k<E->k≠g->k≠D->W.heap[k]? =w0.heap[k]?
theorem FW.of {i:List T} {d:DV} {j:List Rr} (h:LW lev i n w0 W B D g E d j r):FW lev i n w0 W B D g E d j (qW ⟨#[]⟩) (qV qj 0):=⟨h.gw.aw,h.gw.z1,h.bl,h.be,fun k l _ _=>h.kp k l⟩
theorem FW.qJ {l:List T} {d:DV} {i:List Rr} (h:FW lev l n w0 W B D g E d i u v) (r:Nat) (F:r<d.m) (x y:Rr) (G:i[r]? =qw x) (k:Nat) (s:k<7) (a:qz) (H:LRr.cl y=(LRr.cl x).set k a):FW lev l n w0 (W.setCells g (r*7+k) [a]) B D g E d (i.set r y) u v:=by
 obtain⟨o,p,q⟩:=h.aw.qJ r F x y G k s a H;exact⟨o,(q _ _ _ h.z1 z8).trans h.z1,h.bl.trans p,h.be,fun j I m K=>(xB _ W g _ j m).trans (h.kp j I m K)⟩
theorem FW.put {l:List T} {d:DV} {m:List Rr} (h:FW lev l n w0 W B D g E d m u v) (u' v':qz):FW lev l n w0 (W.setCells (E+1) 0 [u',v']) B D g E d m u' v':=by
 have j:=xQ [u',v'] W (E+1) 0 _ _ _ h.z1;rw[show xI #[u,v] 0 [u',v']= #[u',v']by simp[xI]]at j;have i:∀k,k≠E+1->(W.setCells (E+1) 0 [u',v']).heap[k]? =W.heap[k]? :=fun k i=>xB _ W _ 0 k i;exact⟨h.aw.far h.z1 z8 z8 z8 z8 i,j,h.bl.trans (yt _ _ 0 (yN _ _) (by have:=h.be;omega)),h.be,fun k o p q=>(i k za).trans (h.kp k o p q)⟩
theorem FW.post {l:List T} {d i:DV} {m j:List Rr} {q:Dd} (h:FW lev l n w0 W B D g w0.heap.size d m (qW q.tx) (qV qj q.c)) (y:m=j.set r q.r) (o:d.sh=q.sh) (p:d.dec=q.dec) (s:d.a=i.a) (x:d.m=i.m):Post lev l n B D g i j r q w0 (qp (qZ #[qc q.dn,.agg #[qW q.tx,qV qj q.c]])) W:=
 ⟨d,rfl,y▸h.aw,o,p,s,x,h.bl,h.kp⟩
end Sk
namespace Sk
open Hf Bt Zr Ch Sq Tn Bk Sm Ix2 Sd
open Front (ival)
theorem qNf (ad n X:Nat) (l:List T) (B D g:Nat) (d:DV) (rs:List Rr) (r j:Nat) (x:Rr) (hx:rs[r]? =qw x) (hr:r<d.m) (P:Ps ad l n) (hX:kG l.flatten=X) (h:Wk ad l n X x j) (h1:x.st=1) (si:xU (gP l) n d.sh) (w:qy) (af:B<=w.heap.size) (hw:AW ad l n w B D g d rs):
  yC yG 198 #[.agg #[qY (qw ⟨D,0,qx⟩),qV qj (r:Int)]] w (Post ad l n B D g d rs r (deed l X d.sh d.dec x) w):=by
 have hb:x.b<n:=by have:=h.b1;have:=h.lst.lt;omega
 have hn:=P.many;have a9:kG d.sh.held<=64:=by have h5:=si.rgt.2.2.2.2.1;have h6:=si.rgt.2.1;omega
 have s:deed l X d.sh d.dec x=if(xH d.sh (x.b:Int)).2.2=0 then gets l X (xH d.sh (x.b:Int)).2.1 d.dec x (xH d.sh (x.b:Int)).1 else⟨d.sh,d.dec,⟨2,x.o,x.n,x.b,x.l,x.got,x.txt⟩,yE,⟨#[]⟩,0⟩:=by unfold deed;rw[qPr h1]
 obtain⟨H,i,HS⟩:=yR (fun h0=>si.take hb h0) (fun w' (ae:AW ad l n w' B D g d rs)=>Cache.zPy d.sh d.sa d.sk (x.b:Int) w' za ae.dm.shw za za) (fun w' ae=>qI6 ad n l B D g d rs r hr w' ae);obtain⟨W,hW⟩:=zB ((w.alloc (qm #[qY (qw ⟨D,0,qx⟩),qV qj (r:Int)] TAt)).alloc (qm #[qW ⟨#[]⟩,qV qj 0] TRp));have O:=LW.start hw r af;obtain⟨E,hE⟩:=zB w.heap.size;rw[hW,hE]at O;have K1:=zH (O.below ((yN _ W).drew));obtain⟨q,hq⟩:=zB (xH d.sh (x.b:Int));rw[hq]at i s H;obtain⟨tx,c,er⟩:=q;unfold Cache.zC7 at i;simp only at i s H;obtain⟨qd,a3⟩:=zB (deed l X d.sh d.dec x);rw[a3]at s⊢;obtain⟨a5,HE,HW,HX,HH⟩:=yT s hE hW hx h;clear O hw hW hE hq s a9 h si hx a3;go_enter func198,ntmps198;go_wp2;rw[HE.out,show(w.alloc (qm #[qY (qw ⟨D,0,qx⟩),qV qj (r:Int)] TAt)).alloc (qm #[qW ⟨#[]⟩,qV qj 0] TRp)=W from HW.out];go_cut [4,5,6] (fun s4 s5 s6 wx=>∃z b pk,s4=qW tx/\s5=qY (qw ⟨z,0,qx⟩)/\s6=qV qj er/\yH (TW ad l n w wx B D g E d rs r z c b pk))
 case first=>
  refine zS [] (fun W9=>LW ad l n w W9 B D g E d rs r) [0,1,2,4,8,0,32,64,128,256,592,1024,2048,2048,2048,0,40959,114687,262143] 19<|zu 0 8 (zP E 0)<|zy 1 9 (zP D 0) (fun w hS=>zl 252 8 (qJg hS.gw.bx)) K1.out<|zu 2 10 (zP D 0)<|zu 3 11 (zP D 2)<|zy 4 12 (.agg #[qV qj d.sh.room,qV qj d.sh.clock,qX d.sa (kG d.sh.held) d.sk]) (fun w hS=>zl 36 11 (qK9 hS.gw.aw.blk)) K1.out<|zy 5 13 (.agg #[qY (qw ⟨D,0,qx⟩),qV qj (r:Int)]) (fun w hS=>zl 254 1 (qKf hS.gw.bx)) K1.out<| ?_
  refine y2 6 15 ?_ ?_
  ·
   refine yc 14 254 #[.agg #[qY (qw ⟨D,0,qx⟩),qV qj (r:Int)]] (HS.out _ K1.out.gw.aw) ?_;rintro e wa ⟨rfl,K⟩;have m:=zH (K1.out.below K);refine⟨_,rfl,.inr (.inr (m.out)),?_⟩;refine zu 7 15 (qY (qw ⟨g,r*7,qx⟩))<|zu 8 16 (qY (qw ⟨g,r*7+3,qx⟩))<|zy 9 17 (qV qj (x.b:Int)) (fun w hS=>zl 3 16 (yh (hS.gw.aw.at r x HX.out).2.2.2.1 zf zf)) m.out<| ?_
   refine y2 10 15 ?_ ?_
   ·
    refine yc 18 253 #[.agg #[qV qj d.sh.room,qV qj d.sh.clock,qX d.sa (kG d.sh.held) d.sk],qV qj (x.b:Int)] (i.out _ m.out.gw.aw) ?_;rintro e wb ⟨b,pk,rfl,F,G,f⟩;have KB:=zH (m.out.below f);refine⟨_,rfl,.inr (.inr (KB.out)),?_⟩;refine zu 11 7 (qZ #[qW tx,.agg #[qV qj c.room,qV qj c.clock,qX b (kG c.held) pk],qV qj er])<|zu 12 19 (qW tx)<|zu 13 20 (.agg #[qV qj c.room,qV qj c.clock,qX b (kG c.held) pk])<|zu 14 21 (qV qj er)<| ?_
    refine zo 15 5 (qY (qw ⟨wb.heap.size,0,qx⟩)) (xV (w2:=wb.alloc (qm ZSf TSf)) zf rfl rfl) (.inr (.inr (KB.out.al (qm ZSf TSf)))) ?_;refine zu 16 4 (qW tx)<| ?_
    obtain⟨u,hL,o⟩:=(KB.out.al (qm ZSf TSf)).put (zAh wb (qm ZSf TSf)) KB.out.sz (F.below ((yN _ _).alloc (qPq _) _) rfl) (qKz G ((yN _ _).alloc (qPq _) _));refine zw 17 qx (x9 (t:=36) (x:=(.tmp 5)) (y:=(.tmp 20)) rfl zf zf u) (.inr (.inr (hL))) ?_;refine zu 18 6 (qV qj er)<|zE<| ?_
    simp only[zP,zI,Act.put,qPz,qPy,qP0];go_wp2;go_meet;exact⟨_,b,pk,rfl,rfl,rfl,zH o⟩
   ·
    refine yv 5 (qY (qw ⟨wa.heap.size,0,qx⟩)) (xV (w2:=wa.alloc (qm ZSf TSf)) zf rfl rfl) (.inr (.inr (m.out.al (qm ZSf TSf)))) ?_;refine zx 10 18 253 #[.agg #[qV qj d.sh.room,qV qj d.sh.clock,qX d.sa (kG d.sh.held) d.sk],qV qj (x.b:Int)] (i.out _ (m.out.al (qm ZSf TSf)).gw.aw) ?_;rintro e wb ⟨b,pk,rfl,F,G,f⟩;have KB:=zH ((m.out.al (qm ZSf TSf)).below f);refine⟨_,rfl,.inr (.inr (KB.out)),?_⟩;refine zu 11 7 (qZ #[qW tx,.agg #[qV qj c.room,qV qj c.clock,qX b (kG c.held) pk],qV qj er])<|zu 12 19 (qW tx)<|zu 13 20 (.agg #[qV qj c.room,qV qj c.clock,qX b (kG c.held) pk])<|zu 14 21 (qV qj er)<|zu 16 4 (qW tx)<| ?_
    obtain⟨u,hL,o⟩:=KB.out.put (hkeep (zAh wa (qm ZSf TSf)) f) m.out.sz F G;refine zw 17 qx (x9 (t:=36) (x:=(.tmp 5)) (y:=(.tmp 20)) rfl zf zf u) (.inr (.inr (hL))) ?_;refine zu 18 6 (qV qj er)<|zE<| ?_
    simp only[zP,zI,Act.put,qPz,qPy,qP0];go_wp2;go_meet;exact⟨_,b,pk,rfl,rfl,rfl,zH o⟩
  ·
   refine yv 5 (qY (qw ⟨W.drew.heap.size,0,qx⟩)) (xV (w2:=W.drew.alloc (qm ZSf TSf)) zf rfl rfl) (.inr (.inr (K1.out.al (qm ZSf TSf)))) ?_;refine zx 6 14 254 #[.agg #[qY (qw ⟨D,0,qx⟩),qV qj (r:Int)]] (HS.out _ (K1.out.al (qm ZSf TSf)).gw.aw) ?_;rintro e wa ⟨rfl,K⟩;have m:=zH ((K1.out.al (qm ZSf TSf)).below K);refine⟨_,rfl,.inr (.inr (m.out)),?_⟩;refine zu 7 15 (qY (qw ⟨g,r*7,qx⟩))<|zu 8 16 (qY (qw ⟨g,r*7+3,qx⟩))<|zy 9 17 (qV qj (x.b:Int)) (fun w hS=>zl 3 16 (yh (hS.gw.aw.at r x HX.out).2.2.2.1 zf zf)) m.out<| ?_
   refine zx 10 18 253 #[.agg #[qV qj d.sh.room,qV qj d.sh.clock,qX d.sa (kG d.sh.held) d.sk],qV qj (x.b:Int)] (i.out _ m.out.gw.aw) ?_;rintro e wb ⟨b,pk,rfl,F,G,f⟩;have KB:=zH (m.out.below f);refine⟨_,rfl,.inr (.inr (KB.out)),?_⟩;refine zu 11 7 (qZ #[qW tx,.agg #[qV qj c.room,qV qj c.clock,qX b (kG c.held) pk],qV qj er])<|zu 12 19 (qW tx)<|zu 13 20 (.agg #[qV qj c.room,qV qj c.clock,qX b (kG c.held) pk])<|zu 14 21 (qV qj er)<|zu 16 4 (qW tx)<| ?_
   obtain⟨u,hL,o⟩:=KB.out.put (hkeep (hkeep (zAh W.drew (qm ZSf TSf)) K) f) K1.out.sz F G;refine zw 17 qx (x9 (t:=36) (x:=(.tmp 5)) (y:=(.tmp 20)) rfl zf zf u) (.inr (.inr (hL))) ?_;refine zu 18 6 (qV qj er)<|zE<| ?_
   simp only[zP,zI,Act.put,qPz,qPy,qP0];go_wp2;go_meet;exact⟨_,b,pk,rfl,rfl,rfl,zH o⟩
 case rest=>
  obtain⟨z,b,pk,rfl,rfl,rfl,o⟩:=hcut;have L:=o.out.lw.gw.bx;have a6:=o.out.lw.gw.z1;by_cases M:er=0
  ·subst M;obtain rfl:=(H.out rfl).1;have e2:=(H.out rfl).2.1;have hq:=a5.out;rw[qPr rfl]at hq;obtain⟨_,hG,I,V,R⟩:=o.out.lay e2;have a:=o.out.lw.gw.aw.blk;unfold DV.cl at a;obtain⟨w5,Z⟩:=zB (wc.setCells D 2 [qV qj c.room,qV qj c.clock,qX b (kG c.held) pk]);rw[Z]at hG I V R;have HG:=zH (qNy ad n X l B D g (d.shelf c b pk) rs r j x HX.out hr P hX HH.out w5 (qP4 af I.size) hG.aw);rw[show gets l X (d.shelf c b pk).sh (d.shelf c b pk).dec x (gP l x.b)=qd from hq.symm]at HG;obtain⟨y0,y1,y2,y3⟩:=qIa L;obtain⟨u0,u1,u2⟩:=qLt o.out.zz;obtain⟨v0,v1,v2,v3,v4,v5,v6⟩:=qH7 a;have f2:=qH9 a 2;have f3:=qH9 a 3;have f4:=qH9 a 4;obtain⟨HZ,a2,ac,a4,aa⟩:=yT hG.z1 (yO (qL9 hG.aw hG.z1 z8) (qKk hG.aw hG.z1 z8)) I V R;clear L a6 hG I V R a hq;go_wp2_with fail;rw[show((wc.setCell ⟨D,2,qx⟩ (qV qj c.room)).setCell ⟨D,3,qx⟩ (qV qj c.clock)).setCell ⟨D,4,qx⟩ (qX b (kG c.held) pk)=w5 from Z];clear y0 y1 y2 y3 u0 u1 u2 v0 v1 v2 v3 v4 v5 v6 f2 f3 f4 Z;(with_reducible refine HG.out.mono ?_);rintro e w6 ⟨d',rfl,hA,p1,p2,p3,p4,a1,Y⟩;have S:w6.heap[E+1]? =qw (qm #[qW ⟨#[]⟩,qV qj 0] TRp):=(Y (E+1) (by have:=a4.out;omega) a2.out.1 a2.out.2).trans HZ.out;obtain⟨y0,y1,y2,y3⟩:=qIa S;have F6:=yP (FW ad l n w w6 B D g E d' (rs.set r qd.r) _ _) ⟨hA,S,ac.out.trans a1,K1.out.be,fun k h1 h2 h3=>(Y k (by have:=a4.out;omega) h2 h3).trans (aa.out k h1 h3)⟩;have HP:=zH (yO p1 (yO p2 (yO p3 p4)));clear S hA p1 p2 p3 p4 a1 Y;go_wp2;have F7:=F6.out.put (qW qd.tx) (qV qj qd.c);obtain⟨w7,a7⟩:=zB (w6.setCells (E+1) 0 [qW qd.tx,qV qj qd.c]);rw[a7]at F7;rw[show(w6.setCell ⟨E+1,0,qx⟩ (qW qd.tx)).setCell ⟨E+1,1,qx⟩ (qV qj qd.c)=w7 from a7];refine qP5 (v:=qZ #[qc qd.dn,.agg #[qW qd.tx,qV qj qd.c]]) ?_ rfl ?_
   ·exact qIp (t:=2) (p:=3) rfl _ _ _ ⟨E+1,0,qx⟩ _ rfl (qIv F7.z1)
   ·rw[<-HE.out]at F7;exact F7.post rfl HP.out.1 HP.out.2.1 HP.out.2.2.1 HP.out.2.2.2
  ·have ag:(er !=0)=yD:=by simpa using M
   have hq:=a5.out;rw[qPt M]at hq;subst hq;have ab:=zH (HS.out wc o.out.lw.gw.aw);obtain⟨y0,y1,y2,y3⟩:=qIa L;clear L a6;go_wp2_with fail;clear y0 y1 y2 y3;(with_reducible refine ab.out.mono ?_);rintro e w2 ⟨rfl,a8⟩;have H2:=zH (o.out.lw.below a8);clear a8;obtain⟨ah,N⟩:=H2.out.gw.aw.row;have v0:=(H2.out.gw.aw.at r x HX.out).1;have f0:=qH9 N (r*7);obtain⟨z0,z1,z2,z3⟩:=qIa H2.out.gw.z1;have hne:=qL9 H2.out.gw.aw H2.out.gw.z1 z8;have F4:=zH (((FW.of H2.out).qJ r hr x ⟨2,x.o,x.n,x.b,x.l,x.got,x.txt⟩ HX.out 0 z8 (qV qj 2) rfl).put (qW ⟨#[]⟩) (qV qj 0));obtain⟨w4,a0⟩:=zB ((w2.setCells g (r*7+0) [qV qj 2]).setCells (E+1) 0 [qW ⟨#[]⟩,qV qj 0]);rw[a0]at F4;clear N;go_wp2;rw[show((w2.setCell ⟨g,r*7,qx⟩ (qV qj 2)).setCell ⟨E+1,0,qx⟩ (qW ⟨#[]⟩)).setCell ⟨E+1,1,qx⟩ (qV qj 0)=w4 from a0];refine qP5 (v:=qZ #[qc yE,.agg #[qW ⟨#[]⟩,qV qj 0]]) ?_ rfl ?_
   ·exact qIp (t:=2) (p:=3) rfl _ _ _ ⟨E+1,0,qx⟩ _ rfl (qIv F4.out.z1)
   ·have F5:=F4.out;rw[<-HE.out]at F5;exact F5.post (q:=⟨d.sh,d.dec,⟨2,x.o,x.n,x.b,x.l,x.got,x.txt⟩,yE,⟨#[]⟩,0⟩) rfl rfl rfl rfl rfl
end Sk
namespace Sk
open Hf Zr Ch Sq Tn Bk Sm Ix2 Sd
open Front (ival)
variable {c b:Array qz} {lev n B D g E r z y:Nat} {w0 W W':qy}
theorem qN8 {a m c:Nat} (h:min (a+1) m=c):min ((a:Int)+1) (m:Int)=(c:Int):=za
def DV.count (d:DV) (k:Nat):DV:=⟨d.a,d.ip,d.n,d.ic,d.sh,d.sa,d.sk,d.rp,d.m,d.rc,k⟩
structure YW (lev:Nat) (ps:List T) (n:Nat) (w0 W:qy) (B D g E:Nat) (d:DV) (rs:List Rr) (r z:Nat) (c:Array qz) (y:Nat) (b:Array qz):Prop where
 lw:LW lev ps n w0 W B D g E d rs r
 zz:W.heap[z]? =qw (qm c TEn)
 yy:W.heap[y]? =qw (qm b zEf)
theorem YW.below {e:List T} {d:DV} {f:List Rr} (h:YW lev e n w0 W B D g E d f r z c y b) (a:yI W.heap.size W W'):YW lev e n w0 W' B D g E d f r z c y b:=⟨h.lw.below a,hkeep h.zz a,hkeep h.yy a⟩
structure XW (lev:Nat) (ps:List T) (n:Nat) (w0 W:qy) (B D g E:Nat) (d:DV) (rs:List Rr) (r z:Nat) (c:Array qz):Prop where
 lw:LW lev ps n w0 W B D g E d rs r
 zz:W.heap[z]? =qw (qm c TEn)
theorem XW.below {e:List T} {d:DV} {f:List Rr} (h:XW lev e n w0 W B D g E d f r z c) (a:yI W.heap.size W W'):XW lev e n w0 W' B D g E d f r z c:=⟨h.lw.below a,hkeep h.zz a⟩
theorem XW.al {a:List T} {d:DV} {e:List Rr} (h:XW lev a n w0 W B D g E d e r z c) (o:Obj):XW lev a n w0 (W.alloc o) B D g E d e r z c:=h.below ((yN _ _).alloc (qPq _) _)
theorem XW.put {f:List T} {d:DV} {i:List Rr} {u v x t u' v' x' t':qz} (h:XW lev f n w0 W B D g E d i r z c) (a:W.heap[y]? =qw (qm #[u,v,x,t] zEf)) (o:E+2<=y) (p:∀z∈[u',v',x',t'],z.oneCell'=yD):
  ∃W',(storeVar zEf ⟨y,0,qx⟩ (.agg #[u',v',x',t'])).run yG W= .ok () W'/\XW lev f n w0 W' B D g E d i r z c/\YW lev f n w0 W' B D g E d i r z c y #[u',v',x',t']:=by
 obtain⟨W',q,s,m,w⟩:=qE3 a p;have k:=h.lw.far a o z8 z8 z8 z8 m w;have l:W'.heap[z]? =qw (qm c TEn):=(m z (fun e=>by
  have j:=h.zz;rw[e,a]at j;exact absurd (qRf (qPv j)).2.1 z8)).trans h.zz
 exact⟨W',q,⟨k,l⟩,k,l,s⟩
theorem YW.dec {o:List T} {d:DV} {p:List Rr} (h:YW lev o n w0 W B D g E d p r z c y b) (k:Nat) (w:k<=1099511627776):
  (storeVar 3 ⟨D,6,qx⟩ (qV qj (k:Int))).run yG W= .ok () (W.setCells D 6 [qV qj (k:Int)])/\FW lev o n w0 (W.setCells D 6 [qV qj (k:Int)]) B D g E (d.count k) p (qW ⟨#[]⟩) (qV qj 0)/\(W.setCells D 6 [qV qj (k:Int)]).heap[E]? =qw (qm #[qY (qw ⟨D,0,qx⟩),qV qj (r:Int)] TAt)/\
   (W.setCells D 6 [qV qj (k:Int)]).heap[z]? =qw (qm c TEn)/\(W.setCells D 6 [qV qj (k:Int)]).heap[y]? =qw (qm b zEf):=by
 have i:=h.lw.gw.aw.blk;unfold DV.cl at i;have e:=Kit.zDs (P:=yG) (t:=3) (v:=qV qj (k:Int)) (qH7 i).2.2.2.2.2.2 (qH9 i 6) zf rfl rfl;have u:=xQ [qV qj (k:Int)] W D 6 _ _ _ i;have a:∀j,j≠D->(W.setCells D 6 [qV qj (k:Int)]).heap[j]? =W.heap[j]? :=fun j l=>xB _ W D 6 j l;have f:=h.lw.gw.aw.dm;have hne:∀{j:Nat} {m:Array qz} {t:yA},W.heap[j]? =qw (qm m t)->t≠TDk->(W.setCells D 6 [qV qj (k:Int)]).heap[j]? =qw (qm m t):=fun l x=>(a _ (qKk h.lw.gw.aw l x)).trans l;refine⟨e,⟨h.lw.gw.aw.qOo (d':=d.count k) ?_ a rfl rfl rfl ⟨f.en,f.ic,f.idx,f.inil,f.shw,f.cap,f.rgt,f.held,f.m1,f.m8,f.rc,w,f.tI,f.tS⟩,hne h.lw.gw.z1 z8,h.lw.bl.trans (yt _ D 6 (yN _ _) h.lw.gw.aw.lo),h.lw.be,fun j q _ s=>(a j s).trans (h.lw.kp j q)⟩,hne h.lw.gw.bx z8,hne h.zz z8,hne h.yy z8⟩;rw[u];simp[xI,DV.cl,DV.count]
structure UW (lev:Nat) (ps:List T) (n:Nat) (w0 W:qy) (B D g E:Nat) (d:DV) (rs:List Rr) (r y:Nat) (b:Array qz):Prop where
 fw:FW lev ps n w0 W B D g E d rs (qW ⟨#[]⟩) (qV qj 0)
 bx:W.heap[E]? =qw (qm #[qY (qw ⟨D,0,qx⟩),qV qj (r:Int)] TAt)
 yy:W.heap[y]? =qw (qm b zEf)
theorem UW.below {e:List T} {d:DV} {f:List Rr} (h:UW lev e n w0 W B D g E d f r y b) (a:yI W.heap.size W W'):UW lev e n w0 W' B D g E d f r y b:=by
 have o:=zAd h.bx;have m:=h.fw.be;exact⟨⟨h.fw.aw.below a,hkeep h.fw.z1 a,h.fw.bl.trans (a.mono za),m,fun k i j l=>(a.block k za).trans (h.fw.kp k i j l)⟩,hkeep h.bx a,hkeep h.yy a⟩
theorem UW.qJ {o:List T} {d:DV} {e:List Rr} (h:UW lev o n w0 W B D g E d e r y b) (j:r<d.m) (x x':Rr) (l:e[r]? =qw x) (k:Nat) (i:k<7) (a:qz) (m:LRr.cl x'=(LRr.cl x).set k a):UW lev o n w0 (W.setCells g (r*7+k) [a]) B D g E d (e.set r x') r y b:=by
 obtain⟨_,_,f⟩:=h.fw.aw.qJ r j x x' l k i a m;exact⟨h.fw.qJ r j x x' l k i a m,(f _ _ _ h.bx z8).trans h.bx,(f _ _ _ h.yy z8).trans h.yy⟩
theorem zZq (lev n X:Nat) (l:List T) (B D g:Nat) (d:DV) (rs:List Rr) (r j:Nat) (x:Rr) (hx:rs[r]? =qw x) (hr:r<d.m) (P:Ps lev l n) (A:Arc lev l (zCt lev l) n) (b1:(zCt lev l).size<=100000000) (b0:d.a=zCt lev l) (h:Wk lev l n X x j) (h2:x.st=2) (w:qy) (b2:B<=w.heap.size) (hw:AW lev l n w B D g d rs):
  yC yG 199 #[.agg #[qY (qw ⟨D,0,qx⟩),qV qj (r:Int)]] w (Post lev l n B D g d rs r (deed l X d.sh d.dec x) w):=by
 have hb:x.b<n:=by have:=h.b1;have:=h.lst.lt;omega
 have hn:=P.many;have ax:=P.lo;have ah:=P.hi;have H:=hw.dm.dec;obtain⟨dd,O⟩:=zB (min (d.dec+1) 1099511627776);have a5:deed l X d.sh d.dec x=⟨d.sh,dd,⟨3,x.o,x.n,x.b,x.l,x.got,gP l x.b⟩,yE,⟨#[]⟩,0⟩:=by unfold deed;rw[qPt za,qPr h2,O]
 rw[a5];have M:=fun w' az=>qKv lev n l B D g d rs r x hx hr hb hn w' az;have F:=fun w'=>zFi (pos l x.b) (40*lev) (zCt lev l) (gP l x.b) (l.getD x.b []) w' b1 (Rle.zBk _) (P.each _ hb) za za (A.mem hb).2 (A.blk x.b hb);have HS:=zH (fun w' az=>qI6 lev n l B D g (d.count dd) rs r hr w' az);have a9:(zBa (l.getD x.b []):Int)=xD (yu (l.getD x.b [])):=by unfold xD zBa;rfl
 have ac:enV (qIi lev l x.b)= .agg #[qV qj (pos l x.b:Int),qV qj ((40*lev:Nat):Int),qV qj (qH8 l x.b:Int),qV qj ((gP l x.b).size:Int),qV .u32 (xD (yu (l.getD x.b [])))]:=by
  unfold enV zAx qIi;rw[show(gP l x.b).size=kG (l.getD x.b []) from Rle.zCh _]
 unfold qGe at F;rw[a9]at F;rw[ac]at M;rw[<-b0]at F;obtain⟨i,hi⟩:=zB (pos l x.b);obtain⟨rm,Y⟩:=zB (40*lev);obtain⟨f,hf⟩:=zB (qH8 l x.b);obtain⟨s,hs⟩:=zB (gP l x.b);obtain⟨V,hV⟩:=zB (xD (yu (l.getD x.b [])));obtain⟨N,hN⟩:=zB (i+kG (zAn (l.getD x.b [])));obtain⟨a,ha⟩:=zB d.a;rw[hi,Y,hs,hV,hN,ha]at F;rw[hi,Y,hf,hs,hV]at M;rw[hs];obtain⟨HA,ad,a4⟩:=yR ha M F;obtain⟨W,hW⟩:=zB ((w.alloc (qm #[qY (qw ⟨D,0,qx⟩),qV qj (r:Int)] TAt)).alloc (qm #[qW ⟨#[]⟩,qV qj 0] TRp));have I:=LW.start hw r b2;obtain⟨E,hE⟩:=zB w.heap.size;rw[hW,hE]at I;obtain⟨K0,ab,HE,HW,HX,aq⟩:=yU I O hE hW hx H;obtain⟨y0,y1,y2,y3⟩:=qIa I.gw.bx;clear I hw hW hE a5 M F a9 ac hi Y hf hs hV hN ha b0 b1 A h hx O ax ah H;go_enter func199,ntmps199;go_wp2_with fail;rw[HE.out,show(w.alloc (qm #[qY (qw ⟨D,0,qx⟩),qV qj (r:Int)] TAt)).alloc (qm #[qW ⟨#[]⟩,qV qj 0] TRp)=W from HW.out];clear y0 y1 y2 y3;(with_reducible refine(ad.out _ K0.out.gw.aw).mono ?_);rintro e w2 ⟨rfl,ae⟩;have K2:=K0.out.below ae;obtain⟨w3,G⟩:=zB (w2.alloc (qm #[qV qj (i:Int),qV qj (rm:Int),qV qj (f:Int),qV qj (s.size:Int),qV .u32 V] TEn));have k:w3.heap[w2.heap.size]? =qw (qm #[qV qj (i:Int),qV qj (rm:Int),qV qj (f:Int),qV qj (s.size:Int),qV .u32 V] TEn):=by rw[<-G];exact zAh _ _
 have K3:=yP (XW lev l n w w3.drew B D g E d rs r w2.heap.size #[qV qj (i:Int),qV qj (rm:Int),qV qj (f:Int),qV qj (s.size:Int),qV .u32 V]) ⟨(K2.below (by rw[<-G];exact(yN _ _).alloc (qPq _) _)).below ((yN _ _).drew),k⟩;obtain⟨z,hz⟩:=zB w2.heap.size;obtain⟨ak,HZ⟩:=yQ G hz;rw[hz]at K3;clear ae k G hz K2 ad;go_wp2;rw[HZ.out];rw[show w2.alloc (qm #[qV qj (i:Int),qV qj (rm:Int),qV qj (f:Int),qV qj (s.size:Int),qV .u32 V] TEn)=w3 from ak.out];go_cut [5,6] (fun s5 s6 wx=>∃y,s5=qY (qw ⟨y,0,qx⟩)/\s6=qV qj 0/\yH (YW lev l n w wx B D g E d rs r z #[qV qj (i:Int),qV qj (rm:Int),qV qj (f:Int),qV qj (s.size:Int),qV .u32 V] y #[qW s,qV .u32 V,qV qj (i:Int),qV qj (N:Int)]))
 case first=>
  refine zS [] (fun o=>XW lev l n w o B D g E d rs r z #[qV qj (i:Int),qV qj (rm:Int),qV qj (f:Int),qV qj (s.size:Int),qV .u32 V]) [0,1,2,4,8,0,32,0,128,336,512,1024,1024,0,12287,32767] 16<|zu 0 10 (zP E 0)<|zy 1 11 (zP D 0) (fun w m=>zl 252 10 (qJg m.lw.gw.bx)) K3.out<|zu 2 12 (zP D 0)<|zu 3 13 (zP D 0)<|zy 4 14 (qW a) (fun w m=>zl 9 13 (HA.out▸yh (qH7 m.lw.gw.aw.blk).1 zf zf)) K3.out<|zu 5 15 (zP z 0)<|zy 6 16 (zI i) (fun w m=>zl 3 15 (yh (cells5 m.zz).1 zf zf)) K3.out<|zu 7 17 (zP z 1)<|zy 8 18 (zI rm) (fun w m=>zl 3 17 (yh (cells5 m.zz).2.1 zf zf)) K3.out<| ?_
  refine y2 9 13 ?_ ?_
  ·
   refine yc 19 247 #[qW a,qV qj (i:Int),qV qj (rm:Int)] (a4.out _) ?_;rintro e wa ⟨rfl,K⟩;have KA:=zH (K3.out.below K);refine⟨_,rfl,.inr (.inr (KA.out)),?_⟩;refine zu 10 9 (qZ #[.agg #[qW s,qV .u32 V,qV qj (i:Int),qV qj (N:Int)],qV qj 0])<|zu 11 20 (.agg #[qW s,qV .u32 V,qV qj (i:Int),qV qj (N:Int)])<|zu 12 21 (qV qj 0)<| ?_
   refine zo 13 5 (qY (qw ⟨wa.heap.size,0,qx⟩)) (xV (w2:=wa.alloc (qm #[qW ⟨#[]⟩,qV .u32 0,qV qj 0,qV qj 0] zEf)) zf rfl rfl) (.inr (.inr (KA.out.al (qm #[qW ⟨#[]⟩,qV .u32 0,qV qj 0,qV qj 0] zEf)))) ?_;obtain⟨w4,c,hL,hT⟩:=(KA.out.al (qm #[qW ⟨#[]⟩,qV .u32 0,qV qj 0,qV qj 0] zEf)).put (u':=qW s) (v':=qV .u32 V) (x':=qV qj (i:Int)) (t':=qV qj (N:Int)) (zAh wa (qm #[qW ⟨#[]⟩,qV .u32 0,qV qj 0,qV qj 0] zEf)) KA.out.lw.sz (by simp[Value.oneCell']);refine zw 14 qx (x9 (t:=105) (x:=(.tmp 5)) (y:=(.tmp 20)) rfl zf zf c) (.inr (.inr (hL))) ?_;refine zu 15 6 (qV qj 0)<|zE<| ?_
   simp only[zP,zI,Act.put,qPz,qPy,qP0];go_wp2;go_meet;exact⟨_,rfl,rfl,zH hT⟩
  ·
   refine yv 5 (qY (qw ⟨w3.drew.heap.size,0,qx⟩)) (xV (w2:=w3.drew.alloc (qm #[qW ⟨#[]⟩,qV .u32 0,qV qj 0,qV qj 0] zEf)) zf rfl rfl) (.inr (.inr (K3.out.al (qm #[qW ⟨#[]⟩,qV .u32 0,qV qj 0,qV qj 0] zEf)))) ?_;refine zx 9 19 247 #[qW a,qV qj (i:Int),qV qj (rm:Int)] (a4.out _) ?_;rintro e wa ⟨rfl,K⟩;have KA:=zH ((K3.out.al (qm #[qW ⟨#[]⟩,qV .u32 0,qV qj 0,qV qj 0] zEf)).below K);refine⟨_,rfl,.inr (.inr (KA.out)),?_⟩;refine zu 10 9 (qZ #[.agg #[qW s,qV .u32 V,qV qj (i:Int),qV qj (N:Int)],qV qj 0])<|zu 11 20 (.agg #[qW s,qV .u32 V,qV qj (i:Int),qV qj (N:Int)])<|zu 12 21 (qV qj 0)<| ?_
   obtain⟨w4,c,hL,hT⟩:=KA.out.put (u':=qW s) (v':=qV .u32 V) (x':=qV qj (i:Int)) (t':=qV qj (N:Int)) (hkeep (zAh w3.drew (qm #[qW ⟨#[]⟩,qV .u32 0,qV qj 0,qV qj 0] zEf)) K) K3.out.lw.sz (by simp[Value.oneCell']);refine zw 14 qx (x9 (t:=105) (x:=(.tmp 5)) (y:=(.tmp 20)) rfl zf zf c) (.inr (.inr (hL))) ?_;refine zu 15 6 (qV qj 0)<|zE<| ?_
   simp only[zP,zI,Act.put,qPz,qPy,qP0];go_wp2;go_meet;exact⟨_,rfl,rfl,zH hT⟩
 case rest=>
  obtain⟨y,rfl,rfl,hY⟩:=hcut;have Y1:=zH (hY.out.below ((yN _ wc).drew));obtain⟨c,hF,S,k,L⟩:=Y1.out.dec dd (ab.out▸Nat.min_le_right _ _);obtain⟨w5,af⟩:=zB (wc.drew.setCells D 6 [qV qj (dd:Int)]);rw[af]at c hF S k L;have a7:=zH Y1.out.lw.gw.aw.blk;unfold DV.cl at a7;have H:=aq.out;have am:=yP (IntKind.i64.wrap ((d.dec:Int)+1)=(d.dec:Int)+1) (qQb _ ⟨za,za⟩);obtain⟨ai,ay⟩:=yQ (qN8 ab.out) c;have U0:=yP (UW lev l n w w5.drew B D g E (d.count dd) rs r y #[qW s,qV .u32 V,qV qj (i:Int),qV qj (N:Int)]) ((UW.mk hF S L).below ((yN _ w5).drew));obtain⟨ar,au⟩:=yQ k L;clear c hF S k L af H hY;go_wp2;refine zS [] (fun _=>True) [0,1,0,4,8,16,32,64,128,511,1023,1535] 12<|zp [0,1,2,3,4,5,6,7,8,9,10]<|zk 22 (zP E 0)<|zt 23 (zP D 0) (zl 252 22 (qJg Y1.out.lw.gw.bx))<|zk 24 (zP E 0)<|zt 25 (zP D 0) (zl 252 24 (qJg Y1.out.lw.gw.bx))<|zk 26 (zP D 0)<|zk 27 (zP D 6)<|zt 28 (qV qj (d.dec:Int)) (zl 3 27 (yh (qH7 a7.out).2.2.2.2.2.2 zf zf))<|zt 29 (qV qj ((d.dec:Int)+1)) (Kit.qCv (x:= .tmp 28) (y:= .const (qV qj 1)) (t:=3) (u:=3) zf zf zf am.out _)<|zt 30 (zI dd) (qKe (x:= .tmp 29) (y:= .const (qV qj 1099511627776)) (t:=3) (u:=3) zf zf zf ai.out _)<|zk 31 (zP D 0)<|zk 32 (zP D 6)<|zn<|zw 11 qx (zr 3 32 30 (ay.out)) (.inr (.inr trivial))<|zE<| ?_
  simp only[zP,zI,Act.put,qPz,qPy,qP0];obtain⟨c0,c1,c2,c3,c4⟩:=cells5 ar.out;obtain⟨⟨v0,v1,v2,v3⟩,_⟩:=zDf au.out;have ap:((s.size:Int)!=(s.size:Int))=yE:=by simp
  have an:(V !=V)=yE:=by simp
  clear c0 c1 c2 v2 v3;go_wp2;clear c3 c4 v0 v1 ap an;obtain⟨LA,LY⟩:=yQ (fun(o:qy) (h:o.heap[E]? =qw (qm #[qY (qw ⟨D,0,qx⟩),qV qj (r:Int)] TAt)/\o.heap[y]? =qw (qm #[qW s,qV .u32 V,qV qj (i:Int),qV qj (N:Int)] zEf))=>qKf h.1) (fun(o:qy) (h:o.heap[E]? =qw (qm #[qY (qw ⟨D,0,qx⟩),qV qj (r:Int)] TAt)/\o.heap[y]? =qw (qm #[qW s,qV .u32 V,qV qj (i:Int),qV qj (N:Int)] zEf))=>yh (P:=yG) (t:=9) (zDf h.2).1.1 zf zf);refine zS [11] (fun o=>o.heap[E]? =qw (qm #[qY (qw ⟨D,0,qx⟩),qV qj (r:Int)] TAt)/\o.heap[y]? =qw (qm #[qW s,qV .u32 V,qV qj (i:Int),qV qj (N:Int)] zEf)) [0,1,0,6,0,16,11,75,139,511,1023,1535] 12<|zu 4 61 (zP y 0)<|zy 2 59 (.agg #[qY (qw ⟨D,0,qx⟩),qV qj (r:Int)]) (fun w m=>zl 254 1 (LA.out w m)) (yO U0.out.bx U0.out.yy)<|zy 5 62 (qW s) (fun w m=>zl 9 61 (LY.out w m)) (yO U0.out.bx U0.out.yy)<|zp [0]<|zt 57 (.agg #[qY (qw ⟨D,0,qx⟩),qV qj (r:Int)]) ((fun w m=>zl 254 1 (LA.out w m)) _ (yO U0.out.bx U0.out.yy))<|zn<|zx 1 58 254 #[.agg #[qY (qw ⟨D,0,qx⟩),qV qj (r:Int)]] (HS.out _ U0.out.fw.aw)<| ?_
  rintro e w6 ⟨rfl,aj⟩;have U1:=zH (U0.out.below aj);refine⟨_,rfl,.inr (.inr (yO U1.out.bx U1.out.yy)),?_⟩;refine zx 3 60 254 #[.agg #[qY (qw ⟨D,0,qx⟩),qV qj (r:Int)]] (HS.out _ U1.out.fw.aw)<| ?_
  rintro e w8 ⟨rfl,ao⟩;have U2:=zH (U1.out.below ao);obtain⟨b4,ag⟩:=U2.out.fw.aw.row;have a6:=Kit.zDs (P:=yG) (t:=3) (v:=qV qj 3) (U2.out.fw.aw.at r x HX.out).1 (qH9 ag (r*7)) zf rfl rfl;have U3:=zH (U2.out.qJ hr x ⟨3,x.o,x.n,x.b,x.l,x.got,x.txt⟩ HX.out 0 z8 (qV qj 3) rfl);obtain⟨Z,a1⟩:=zB (w8.setCells g (r*7+0) [qV qj 3]);rw[a1]at U3;rw[show w8.setCell ⟨g,r*7,qx⟩ (qV qj 3)=Z from a1]at a6;have aa:(rs.set r ⟨3,x.o,x.n,x.b,x.l,x.got,x.txt⟩)[r]? =qw ⟨3,x.o,x.n,x.b,x.l,x.got,x.txt⟩:=by rw[qSv,qPr rfl,qPr (h_lt HX.out)]
  obtain⟨b3,a3⟩:=U3.out.fw.aw.row;have a8:=Kit.zDs (P:=yG) (t:=9) (v:=qW s) (U3.out.fw.aw.at r _ aa).2.2.2.2.2.2 (qH9 a3 (r*7+6)) zf rfl rfl;have U4:=zH (U3.out.qJ hr _ ⟨3,x.o,x.n,x.b,x.l,x.got,s⟩ aa 6 z8 (qW s) rfl);obtain⟨R,a0⟩:=zB (Z.setCells g (r*7+6) [qW s]);rw[a0,List.set_set]at U4;rw[show Z.setCell ⟨g,r*7+6,qx⟩ (qW s)=R from a0]at a8;refine⟨_,rfl,.inr (.inr (yO U2.out.bx U2.out.yy)),?_⟩;refine zp [6,7]<|zk 63 (qY (qw ⟨g,r*7,qx⟩))<|zk 64 (qY (qw ⟨g,r*7,qx⟩))<|zn<|zw 8 qx (x9 (t:=3) (x:=(.tmp 64)) (y:=(.const (qV qj 3))) rfl zf zf (a6)) (.inr (.inr (yO U3.out.bx U3.out.yy)))<|zp [9,10]<|zk 65 (qY (qw ⟨g,r*7,qx⟩))<|zk 66 (qY (qw ⟨g,r*7+6,qx⟩))<|zn<|zw 11 qx (zr 9 66 62 (a8)) (.inr (.inl zf))<|zE<| ?_
  simp only[zP,zI,Act.put,qPz,qPy,qP0];obtain⟨z0,z1,z2,z3⟩:=qIa U4.out.fw.z1;go_wp2;have F5:=U4.out.fw.put (qW ⟨#[]⟩) (qV qj 0);obtain⟨av,a2⟩:=zB (R.setCells (E+1) 0 [qW ⟨#[]⟩,qV qj 0]);rw[a2]at F5;rw[show(R.setCell ⟨E+1,0,qx⟩ (qW ⟨#[]⟩)).setCell ⟨E+1,1,qx⟩ (qV qj 0)=av from a2];refine qP5 (v:=qZ #[qc yE,.agg #[qW ⟨#[]⟩,qV qj 0]]) ?_ rfl ?_
  ·exact qIp (t:=2) (p:=3) rfl _ _ _ ⟨E+1,0,qx⟩ _ rfl (qIv F5.z1)
  ·rw[<-HE.out]at F5;exact F5.post (q:=⟨d.sh,dd,⟨3,x.o,x.n,x.b,x.l,x.got,s⟩,yE,⟨#[]⟩,0⟩) rfl rfl rfl rfl rfl
end Sk
namespace Sk
open Hf Bt Zr Wg Ch Sq Tn Bk Sm Ix2 Sd
open Front (ival)
variable {lev n B D g E r y:Nat} {w0 W:qy}
structure VW (lev:Nat) (ps:List T) (n:Nat) (w0 W:qy) (B D g E:Nat) (d:DV) (rs:List Rr) (r y:Nat) (x:Rr):Prop where
 lw:LW lev ps n w0 W B D g E d rs r
 yy:W.heap[y]? =qw (qm (LRr.cl x).toArray TRr)
theorem VW.below {b:List T} {W':qy} {d:DV} {c:List Rr} {x:Rr} (h:VW lev b n w0 W B D g E d c r y x) (a:yI W.heap.size W W'):VW lev b n w0 W' B D g E d c r y x:=⟨h.lw.below a,hkeep h.yy a⟩
theorem VW.al {a:List T} {d:DV} {b:List Rr} {x:Rr} (h:VW lev a n w0 W B D g E d b r y x) (o:Obj):VW lev a n w0 (W.alloc o) B D g E d b r y x:=h.below ((yN _ _).alloc (qPq _) _)
theorem VW.put {b:List T} {z:Nat} {d:DV} {f:List Rr} {x:Rr} {c:yx} {a:Option yB} {pk:Nat} (h:VW lev b n w0 W B D g E d f r y x) (j:W.heap[z]? =qw (qm ZSf TSf)) (k:E+2<=z) (p:kC W c a pk) (q:kF W (kG c.held) a pk):
  (storeVar TSf ⟨z,0,qx⟩ (.agg #[qV qj c.room,qV qj c.clock,qX a (kG c.held) pk])).run yG W= .ok () (W.setCells z 0 [qV qj c.room,qV qj c.clock,qX a (kG c.held) pk])/\
   VW lev b n w0 (W.setCells z 0 [qV qj c.room,qV qj c.clock,qX a (kG c.held) pk]) B D g E d f r y x/\TW lev b n w0 (W.setCells z 0 [qV qj c.room,qV qj c.clock,qX a (kG c.held) pk]) B D g E d f r z c a pk:=by
 obtain⟨l,m,o⟩:=h.lw.put j k p q;refine⟨l,⟨m,(xB _ W z 0 y (fun e=> ?_)).trans h.yy⟩,o⟩;have i:=h.yy;rw[e,j]at i;exact absurd (qRf (qPv i)).2.1 z8
theorem qKc (lev n X:Nat) (b:List T) (B D g:Nat) (d:DV) (rs:List Rr) (r j:Nat) (x:Rr) (hx:rs[r]? =qw x) (hr:r<d.m) (P:Ps lev b n) (hX:kG b.flatten=X) (h:Wk lev b n X x j) (h3:x.st=3) (ht:x.txt=gP b x.b) (si:xU (gP b) n d.sh) (w:qy) (am:B<=w.heap.size) (hw:AW lev b n w B D g d rs):
  yC yG 200 #[.agg #[qY (qw ⟨D,0,qx⟩),qV qj (r:Int)]] w (Post lev b n B D g d rs r (deed b X d.sh d.dec x) w):=by
 have hb:x.b<n:=by have:=h.b1;have:=h.lst.lt;omega
 have hn:=P.many;have af:kG d.sh.held<=64:=by have h5:=si.rgt.2.2.2.2.1;have h6:=si.rgt.2.1;omega
 have G:deed b X d.sh d.dec x=gets b X (if(xK d.sh (x.b:Int) (gP b x.b)).2.2=0 then(xK d.sh (x.b:Int) (gP b x.b)).2.1 else d.sh) d.dec x (gP b x.b):=by unfold deed;rw[qPt za,qPt za,ht]
 have M:=fun h0=>(si.keep hb h0).1;have i:=fun w' (ak:AW lev b n w' B D g d rs)=>Cache.qKc d.sh d.sa d.sk (x.b:Int) (gP b x.b) w' za ak.dm.shw za za;obtain⟨HS,HG⟩:=yQ (fun w' ak=>qI6 lev n b B D g d rs r hr w' ak) (fun(d':DV) (hm:d'.m=d.m) (a0:d'.dec=d.dec) w' (an:B<=w'.heap.size) ak=>qNy lev n X b B D g d' rs r j x hx (by rw[hm];exact hr) P hX h w' an ak);obtain⟨W,hW⟩:=zB ((w.alloc (qm #[qY (qw ⟨D,0,qx⟩),qV qj (r:Int)] TAt)).alloc (qm #[qW ⟨#[]⟩,qV qj 0] TRp));have S:=LW.start hw r am;obtain⟨E,hE⟩:=zB w.heap.size;rw[hW,hE]at S;have K0:=zH S;obtain⟨l,ab⟩:=zB (deed b X d.sh d.dec x);rw[ab]at G⊢;obtain⟨s,hs⟩:=zB (gP b x.b);rw[hs]at i G M ht HG;obtain⟨q,hq⟩:=zB (xK d.sh (x.b:Int) s);rw[hq]at i G M;obtain⟨gn,c,er⟩:=q;have Y:=zH i;unfold Cache.zC7 at Y;simp only at Y G M;obtain⟨ah,ad,HE,HW,HX,HH,ap,HT,aq⟩:=yY M G hE hW hx h hs ht si;obtain⟨y0,y1,y2,y3⟩:=qIa S.gw.bx;clear S hw hW hE hq G af h si hx ab M i hs ht h3;go_enter func200,ntmps200;go_wp2_with fail;rw[HE.out,show(w.alloc (qm #[qY (qw ⟨D,0,qx⟩),qV qj (r:Int)] TAt)).alloc (qm #[qW ⟨#[]⟩,qV qj 0] TRp)=W from HW.out];clear y0 y1 y2 y3;(with_reducible refine(HS.out _ K0.out.gw.aw).mono ?_);rintro e w2 ⟨rfl,ae⟩;have K2:=K0.out.below ae;obtain⟨q0,q1,q2,q3,q4,q5,q6⟩:=K2.gw.aw.at r x HX.out;rw[HT.out]at q6;have aa:(LRr.cl x).toArray= #[qV qj (x.st:Int),qV qj (x.o:Int),qV qj (x.n:Int),qV qj (x.b:Int),qV qj (x.l:Int),qW x.got,qW s]:=by
  rw[<-HT.out];rfl
 obtain⟨w3,R⟩:=zB (w2.alloc (qm #[qV qj (x.st:Int),qV qj (x.o:Int),qV qj (x.n:Int),qV qj (x.b:Int),qV qj (x.l:Int),qW x.got,qW s] TRr));have ac:w3.heap[w2.heap.size]? =qw (qm (LRr.cl x).toArray TRr):=by rw[<-R,aa];exact zAh _ _
 have K3:=yP (VW lev b n w w3.drew B D g E d rs r w2.heap.size x) ⟨(K2.below (by rw[<-R];exact(yN _ _).alloc (qPq _) _)).below ((yN _ _).drew),ac⟩;obtain⟨z,hz⟩:=zB w2.heap.size;obtain⟨ag,HZ,a3⟩:=yR R hz aa;rw[hz]at K3;clear ae ac R hz K2 aa;go_wp2;rw[HZ.out];rw[show w2.alloc (qm #[qV qj (x.st:Int),qV qj (x.o:Int),qV qj (x.n:Int),qV qj (x.b:Int),qV qj (x.l:Int),qW x.got,qW s] TRr)=w3 from ag.out];clear q0 q1 q2 q3 q4 q5 q6;obtain⟨LE,LD,L3,L6⟩:=yS (fun(W9:qy) (h:VW lev b n w W9 B D g E d rs r z x)=>qJg h.lw.gw.bx) (fun(W9:qy) (h:VW lev b n w W9 B D g E d rs r z x)=>qK9 h.lw.gw.aw.blk) (fun(W9:qy) (h:VW lev b n w W9 B D g E d rs r z x)=>show(loadVar 3 ⟨z,3,qx⟩).run yG W9= .ok (qV qj (x.b:Int)) W9 by have h:=h.yy;rw[a3.out]at h;exact yh (qH7 h).2.2.2.1 zf zf) (fun(W9:qy) (h:VW lev b n w W9 B D g E d rs r z x)=>show(loadVar 9 ⟨z,6,qx⟩).run yG W9= .ok (qW s) W9 by have h:=h.yy;rw[a3.out]at h;exact yh (qH7 h).2.2.2.2.2.2 zf zf);go_cut [5,6,7] (fun s5 s6 s7 wx=>∃y pa pk,s5=qV qj gn/\s6=qY (qw ⟨y,0,qx⟩)/\s7=qV qj er/\yH (TW lev b n w wx B D g E d rs r y c pa pk/\wx.heap[z]? =qw (qm (LRr.cl x).toArray TRr)))
 case first=>
  refine zS [] (fun W9=>VW lev b n w W9 B D g E d rs r z x) [0,1,2,4,8,0,32,0,128,336,512,1024,1024,1024,0,20479,57343,131071] 18<|zu 0 13 (zP E 0)<|zy 1 14 (zP D 0) (fun w hS=>zl 252 13 (LE.out w hS)) K3.out<|zu 2 15 (zP D 0)<|zu 3 16 (zP D 2)<|zy 4 17 (.agg #[qV qj d.sh.room,qV qj d.sh.clock,qX d.sa (kG d.sh.held) d.sk]) (fun w hS=>zl 36 16 (LD.out w hS)) K3.out<|zu 5 18 (zP z 3)<|zy 6 19 (qV qj (x.b:Int)) (fun w hS=>zl 3 18 (L3.out w hS)) K3.out<|zu 7 20 (zP z 6)<|zy 8 21 (qW s) (fun w hS=>zl 9 20 (L6.out w hS)) K3.out<| ?_
  refine y2 9 14 ?_ ?_
  ·
   refine yc 22 258 #[.agg #[qV qj d.sh.room,qV qj d.sh.clock,qX d.sa (kG d.sh.held) d.sk],qV qj (x.b:Int),qW s] (Y.out _ K3.out.lw.gw.aw) ?_;rintro e wa ⟨pa,pk,rfl,a0,a9,Z⟩;have KA:=zH (K3.out.below Z);refine⟨_,rfl,.inr (.inr (KA.out)),?_⟩;refine zu 10 12 (qZ #[qV qj gn,.agg #[qV qj c.room,qV qj c.clock,qX pa (kG c.held) pk],qV qj er])<|zu 11 23 (qV qj gn)<|zu 12 24 (.agg #[qV qj c.room,qV qj c.clock,qX pa (kG c.held) pk])<|zu 13 25 (qV qj er)<| ?_
   refine zo 14 6 (qY (qw ⟨wa.heap.size,0,qx⟩)) (xV (w2:=wa.alloc (qm ZSf TSf)) zf rfl rfl) (.inr (.inr (KA.out.al (qm ZSf TSf)))) ?_;refine zu 15 5 (qV qj gn)<| ?_
   obtain⟨a4,hL,o⟩:=(KA.out.al (qm ZSf TSf)).put (zAh wa (qm ZSf TSf)) KA.out.lw.sz (a0.below ((yN _ _).alloc (qPq _) _) rfl) (qKz a9 ((yN _ _).alloc (qPq _) _));refine zw 16 qx (x9 (t:=36) (x:=(.tmp 6)) (y:=(.tmp 24)) rfl zf zf a4) (.inr (.inr (hL))) ?_;refine zu 17 7 (qV qj er)<|zE<| ?_
   simp only[zP,zI,Act.put,qPz,qPy,qP0];go_wp2;go_meet;exact⟨_,pa,pk,rfl,rfl,rfl,zH ⟨o,hL.yy⟩⟩
  ·
   refine yv 6 (qY (qw ⟨w3.drew.heap.size,0,qx⟩)) (xV (w2:=w3.drew.alloc (qm ZSf TSf)) zf rfl rfl) (.inr (.inr (K3.out.al (qm ZSf TSf)))) ?_;refine zx 9 22 258 #[.agg #[qV qj d.sh.room,qV qj d.sh.clock,qX d.sa (kG d.sh.held) d.sk],qV qj (x.b:Int),qW s] (Y.out _ (K3.out.al (qm ZSf TSf)).lw.gw.aw) ?_;rintro e wa ⟨pa,pk,rfl,a0,a9,Z⟩;have KA:=zH ((K3.out.al (qm ZSf TSf)).below Z);refine⟨_,rfl,.inr (.inr (KA.out)),?_⟩;refine zu 10 12 (qZ #[qV qj gn,.agg #[qV qj c.room,qV qj c.clock,qX pa (kG c.held) pk],qV qj er])<|zu 11 23 (qV qj gn)<|zu 12 24 (.agg #[qV qj c.room,qV qj c.clock,qX pa (kG c.held) pk])<|zu 13 25 (qV qj er)<|zu 15 5 (qV qj gn)<| ?_
   obtain⟨a4,hL,o⟩:=KA.out.put (hkeep (zAh w3.drew (qm ZSf TSf)) Z) K3.out.lw.sz a0 a9;refine zw 16 qx (x9 (t:=36) (x:=(.tmp 6)) (y:=(.tmp 24)) rfl zf zf a4) (.inr (.inr (hL))) ?_;refine zu 17 7 (qV qj er)<|zE<| ?_
   simp only[zP,zI,Act.put,qPz,qPy,qP0];go_wp2;go_meet;exact⟨_,pa,pk,rfl,rfl,rfl,zH ⟨o,hL.yy⟩⟩
 case rest=>
  obtain⟨y,pa,pk,rfl,rfl,rfl,a8⟩:=hcut;have o:=zH a8.out.1;have f:=a8.out.2;rw[a3.out]at f;clear a8;by_cases a2:er=0
  ·subst a2;have e2:=ah.out rfl;have hq:=ad.out;rw[qPr rfl]at hq;obtain⟨_,m,V,a5,i⟩:=o.out.lay e2;have a:=o.out.lw.gw.aw.blk;unfold DV.cl at a;obtain⟨w5,a1⟩:=zB (wc.setCells D 2 [qV qj c.room,qV qj c.clock,qX pa (kG c.held) pk]);have ai:w5.heap[z]? =qw (qm #[qV qj (x.st:Int),qV qj (x.o:Int),qV qj (x.n:Int),qV qj (x.b:Int),qV qj (x.l:Int),qW x.got,qW s] TRr):=by
    rw[<-a1];exact(xB _ wc D 2 z (qKk o.out.lw.gw.aw f z8)).trans f
   rw[a1]at m V a5 i;have H:=zH (HG.out (d.shelf c pa pk) rfl rfl w5 (qP4 am V.size) m.aw);rw[show gets b X (d.shelf c pa pk).sh (d.shelf c pa pk).dec x s=l from hq.symm]at H;obtain⟨y0,y1,y2,y3⟩:=qIa o.out.lw.gw.bx;obtain⟨u0,u1,u2⟩:=qLt o.out.zz;obtain⟨v0,v1,v2,v3,v4,v5,v6⟩:=qH7 a;obtain⟨q0,q1,q2,q3,q4,q5,q6⟩:=qH7 f;have f2:=qH9 a 2;have f3:=qH9 a 3;have f4:=qH9 a 4;have aj:=qKk o.out.lw.gw.aw f z8;obtain⟨a7,K,a6,L,O⟩:=yT m.z1 (yO (qL9 m.aw m.z1 z8) (qKk m.aw m.z1 z8)) V a5 i;clear f m V a5 i a hq ai e2;go_wp2_with fail;rw[show((wc.setCell ⟨D,2,qx⟩ (qV qj c.room)).setCell ⟨D,3,qx⟩ (qV qj c.clock)).setCell ⟨D,4,qx⟩ (qX pa (kG c.held) pk)=w5 from a1];clear y0 y1 y2 y3 q3 q6 q0 q1 q2 q4 q5 u0 u1 u2 v0 v1 v2 v3 v4 v5 v6 f2 f3 f4 aj a1;(with_reducible refine H.out.mono ?_);rintro e w6 ⟨d',rfl,hA,p1,p2,p3,p4,I,F⟩;have u:w6.heap[E+1]? =qw (qm #[qW ⟨#[]⟩,qV qj 0] TRp):=(F (E+1) (by have:=L.out;omega) K.out.1 K.out.2).trans a7.out;obtain⟨y0,y1,y2,y3⟩:=qIa u;have F6:=yP (FW lev b n w w6 B D g E d' (rs.set r l.r) _ _) ⟨hA,u,a6.out.trans I,K3.out.lw.be,fun k h1 h2 h3=>(F k (by have:=L.out;omega) h2 h3).trans (O.out k h1 h3)⟩;have HP:=zH (yO p1 (yO p2 (yO p3 p4)));clear u hA p1 p2 p3 p4 I F;go_wp2;have F7:=F6.out.put (qW l.tx) (qV qj l.c);obtain⟨w7,N⟩:=zB (w6.setCells (E+1) 0 [qW l.tx,qV qj l.c]);rw[N]at F7;rw[show(w6.setCell ⟨E+1,0,qx⟩ (qW l.tx)).setCell ⟨E+1,1,qx⟩ (qV qj l.c)=w7 from N];refine qP5 (v:=qZ #[qc l.dn,.agg #[qW l.tx,qV qj l.c]]) ?_ rfl ?_
   ·exact qIp (t:=2) (p:=3) rfl _ _ _ ⟨E+1,0,qx⟩ _ rfl (qIv F7.z1)
   ·rw[<-HE.out]at F7;exact F7.post rfl HP.out.1 HP.out.2.1 HP.out.2.2.1 HP.out.2.2.2
  ·have ao:(er==0)=yE:=by simpa using a2
   have hq:=ad.out;rw[qPt a2]at hq;have m:=o.out.lw.gw;have H:=zH (HG.out d rfl rfl wc (qP4 am o.out.lw.bl.size) m.aw);rw[show gets b X d.sh d.dec x s=l from hq.symm]at H;obtain⟨y0,y1,y2,y3⟩:=qIa m.bx;obtain⟨q0,q1,q2,q3,q4,q5,q6⟩:=qH7 f;obtain⟨a7,K,a6,L⟩:=yS m.z1 (yO (qL9 m.aw m.z1 z8) (qKk m.aw m.z1 z8)) o.out.lw.bl o.out.lw.sz;have O:=yP (∀k,k<E->k≠D->wc.heap[k]? =w.heap[k]?) fun k h1 _=>o.out.lw.kp k h1;clear f m hq;go_wp2_with fail
   skip
   clear y0 y1 y2 y3 q3 q6 q0 q1 q2 q4 q5;(with_reducible refine H.out.mono ?_);rintro e w6 ⟨d',rfl,hA,p1,p2,p3,p4,I,F⟩;have u:w6.heap[E+1]? =qw (qm #[qW ⟨#[]⟩,qV qj 0] TRp):=(F (E+1) (by have:=L.out;omega) K.out.1 K.out.2).trans a7.out;obtain⟨y0,y1,y2,y3⟩:=qIa u;have F6:=yP (FW lev b n w w6 B D g E d' (rs.set r l.r) _ _) ⟨hA,u,a6.out.trans I,K3.out.lw.be,fun k h1 h2 h3=>(F k (by have:=L.out;omega) h2 h3).trans (O.out k h1 h3)⟩;have HP:=zH (yO p1 (yO p2 (yO p3 p4)));clear u hA p1 p2 p3 p4 I F;go_wp2;have F7:=F6.out.put (qW l.tx) (qV qj l.c);obtain⟨w7,N⟩:=zB (w6.setCells (E+1) 0 [qW l.tx,qV qj l.c]);rw[N]at F7;rw[show(w6.setCell ⟨E+1,0,qx⟩ (qW l.tx)).setCell ⟨E+1,1,qx⟩ (qV qj l.c)=w7 from N];refine qP5 (v:=qZ #[qc l.dn,.agg #[qW l.tx,qV qj l.c]]) ?_ rfl ?_
   ·exact qIp (t:=2) (p:=3) rfl _ _ _ ⟨E+1,0,qx⟩ _ rfl (qIv F7.z1)
   ·rw[<-HE.out]at F7;exact F7.post rfl HP.out.1 HP.out.2.1 HP.out.2.2.1 HP.out.2.2.2
end Sk
end Go.Proofs.YtppnakkaljbmbaaGreatDoor
