/- Steps of a proof; no condition beyond what each states. -/
import Derived.Test.YtppnakkaljbmbaaGreatDoorZX00
import Derived.Test.YtppnakkaljbmbaaGreatDoorZX28
set_option linter.unusedVariables false
set_option linter.unusedSimpArgs false
set_option maxRecDepth 100000
set_option maxHeartbeats 8000000
open List renaming length->kG
open Go.Proofs.YtppnakkaljbmbaaGreatDoor.Kit renaming zAg->yh,Own'->yj,below_setCells->yt,zAo->xB,size_setCells->xC,spl->xI,Rd->xJ
open Go.Proofs.YtppnakkaljbmbaaGreatDoor.Cache renaming Right->xS,ShW->kC
open Go.RowKit
open Go.Proofs.Tryz
open Go.Value renaming int->qV,string->qW,slice->qX,pointer->qY,tuple->qZ,bool->qc
open Go.IntKind renaming i64->qj
open Go.Obj renaming cells->qm
open Go.Ending renaming returned->qp
open Option renaming some->qw,none->qx
open Go renaming World->qy,Value->qz,TypeId->yA,Addr->yB,Calls->yC
open Bool renaming true->yD,false->yE
open Go.Proofs.Tryz renaming prog->yG
open Go.RowKit renaming Hid->yH,Below->yI
open Go.World renaming cell?->yM
open Go.RowKit.Below renaming refl->yN
namespace Go.Proofs.YtppnakkaljbmbaaGreatDoor
namespace Sk
open Hf Bt Zr Ch Sq St Bk Sm Ix2
open Front (ival)
variable {w w':qy} {a:Option yB} {e t:yA} {n R lev X:Nat} {cs:Array qz} {f:Nat×Nat}
def okR (lev:Nat) (b:List T) (n X:Nat) (r:Rr):Prop:=r=free\/∃j,Wk lev b n X r j
def Ty (w:qy) (a:Option yB) (e:yA):Prop:=∀g o,a=qw ⟨g,o,qx⟩->∃cs f,w.heap[g]? =qw (qm cs e f)
theorem Ty.below (h:Ty w a e) (c:yI w.heap.size w w'):Ty w' a e:=fun g o b=>by
 obtain⟨cs,f,d⟩:=h g o b;exact⟨cs,f,hkeep d c⟩
theorem Ty.own {α:Type} {L:Kit.Lay α} {B:Nat} {c:Nat} {xs:List α} (h:yj L w B e a n c xs):Ty w a e:=fun g o i=>by
 obtain⟨_,d⟩:=h;rcases d with⟨d,_⟩|⟨g',k,l,hv,_,j,_⟩
 ·injection d with d _ _
  rw[i]at d;cases d
 ·injection hv with hv _ _
  rw[i]at hv;have hv:=qPv hv;have b:g=g':=qPs Addr.block hv;rw[b];exact⟨_,_,j⟩
theorem qJm {α:Type} {L:Kit.Lay α} {xs:List α} (h:xJ L w a xs) (u:Ty w a e) (p:w.heap[R]? =qw (qm cs t f)) (hne:e≠t) (s:∀k,k≠R->w'.heap[k]? =w.heap[k]?):xJ L w' a xs:=by
 intro j x y;obtain⟨b,c,l,q⟩:=h j x y;obtain⟨g,f',m⟩:=u b c l;have d:b≠R:=fun r=>by
  rw[r]at m;have o:qw (Obj.cells g e f')=qw (Obj.cells cs t f):=m.symm.trans p;exact hne (qRf (qPv o)).2.1
 refine⟨b,c,l,fun i hi=> ?_⟩;rw[<-q i hi];exact qRe (w:=w) (w':=w') (a:=⟨b,c+j*L.k+i,qx⟩) (s b d)
theorem qJk (m:Ty w a e) (h:w.heap[R]? =qw (qm cs t f)) (hne:e≠t) (l:∀k,k≠R->w'.heap[k]? =w.heap[k]?):Ty w' a e:=fun g o i=>by
 obtain⟨b,f',c⟩:=m g o i;refine⟨b,f',(l g (fun j=> ?_)).trans c⟩;rw[j]at c;have d:qw (Obj.cells b e f')=qw (Obj.cells cs t f):=c.symm.trans h;exact hne (qRf (qPv d)).2.1
structure Dk (lev:Nat) (ps:List T) (n X:Nat) (w:qy) (d:DV) (rs:List Rr):Prop where
 en:d.n=n
 ic:n<=d.ic
 idx:xJ LEn w d.ip (ents lev ps n)
 inil:qIz d.ip n d.ic
 shw:kC w d.sh d.sa d.sk
 cap:kG d.sh.held<=d.sk
 rgt:xS d.sh
 held:∀h∈d.sh.held,∃k:Nat,h.blk=(k:Int)/\k<n/\h.txt=Rle.bs (ps.getD k [])
 rdr:xJ LRr w d.rp rs
 rm:kG rs=d.m
 m1:1<=d.m
 m8:d.m<=8
 rc:d.m<=d.rc
 okr:∀r∈rs,okR lev ps n X r
 dec:d.dec<=1099511627776
 tI:Ty w d.ip TEn
 tS:Ty w d.sa THd
 tR:Ty w d.rp TRr
theorem Dk.below {c:List T} {d:DV} {g:List Rr} (h:Dk lev c n X w d g) (b:yI w.heap.size w w'):Dk lev c n X w' d g:=
 ⟨h.en,h.ic,h.idx.below b rfl,h.inil,h.shw.below b rfl,h.cap,h.rgt,h.held,h.rdr.below b rfl,h.rm,h.m1,h.m8,h.rc,h.okr,h.dec,h.tI.below b,h.tS.below b,h.tR.below b⟩
theorem Dk.far {l:List T} {d:DV} {m:List Rr} (h:Dk lev l n X w d m) (b:w.heap[R]? =qw (qm cs t f)) (g:TEn≠t) (i:THd≠t) (j:TRr≠t) (c:∀k,k≠R->w'.heap[k]? =w.heap[k]?):Dk lev l n X w' d m:=
 ⟨h.en,h.ic,qJm h.idx h.tI b g c,h.inil,⟨qI3.2 (qJm (qI3.1 h.shw.src) h.tS b i c),h.shw.nil,h.shw.wf⟩,h.cap,h.rgt,h.held,qJm h.rdr h.tR b j c,h.rm,h.m1,h.m8,h.rc,h.okr,h.dec,qJk h.tI b g c,qJk h.tS b i c,qJk h.tR b j c⟩
theorem zJw (lev n X:Nat) (b:List T) (P:Ps lev b n) (g:kG b.flatten=X) (d:DV) (i:d.n=n) (c:n<=d.ic) (r:Rr) (h:okR lev b n X r) (w:qy) (hi:xJ LEn w d.ip (ents lev b n)):
  yC yG 250 #[d.v,.agg (LRr.cl r).toArray] w fun e w'=>e=qp (qc yD)/\yI w.heap.size w w':=by
 rcases h with rfl|⟨j,h⟩
 ·exact qNe d w
 ·exact qNd lev n X b P g d i c r j h w hi
theorem qL3 (lev n X:Nat) (j:List T) (P:Ps lev j n) (s:kG j.flatten=X) (d:DV) (u:d.n=n) (p:n<=d.ic) (r:Rr) (h:okR lev j n X r) (w:qy) (hi:xJ LEn w d.ip (ents lev j n)) (D:Nat) (hd:w.heap[D]? =qw (qm d.cl TDk)):
  yC yG 249 #[.agg (LRr.cl r).toArray,qY (qw ⟨D,0,qx⟩)] w fun e w'=>e=qp (qc yE)/\yI w.heap.size w w':=by
 obtain⟨HM,k⟩:=yQ (fun w' I=>zJw lev n X j P s d u p r h w' (hi.below (w':=w') I rfl)) hd;obtain⟨a,ip,n',ic,⟨Z,W,Y⟩,sa,sk,rp,m,rc,dec⟩:=d;obtain⟨st,o,q,b,l,f,c⟩:=r;rw[show(LRr.cl (⟨st,o,q,b,l,f,c⟩:Rr)).toArray= #[qV qj (st:Int),qV qj (o:Int),qV qj (q:Int),qV qj (b:Int),qV qj (l:Int),qW f,qW c]from rfl]at HM⊢;unfold DV.v DV.cl at HM;unfold DV.cl at k;obtain⟨x,y,y2,z,B,F,G⟩:=qH7 k.out;have a0:D<w.heap.size:=zAd k.out;clear P s u p h hi hd;have L:=fun i=>qIt (o:=i) x;have M:=fun i=>qIt (o:=i) y;have z2:=fun i=>qIt (o:=i) y2;have N:=fun i=>qIt (o:=i) z;have O:=fun i=>qIt (o:=i) B;have S:=fun i=>qIt (o:=i) F;have V:=fun i=>qIt (o:=i) G;clear x y y2 z B F G;go_enter func249,ntmps249;go_wp2_with fail;clear L M z2 N O S V;(with_reducible refine(HM.out _ ((yN _ _).alloc (qPq _) _)).mono ?_);rintro e K ⟨rfl,g⟩;have H:=yP (yI w.heap.size w K) (((yN w.heap.size w).alloc (qPq _) _).trans (g.mono (by rw[zA];omega)));clear g HM;go_wp2;go_ret;exact⟨rfl,H.out⟩
theorem zOw (lev n X:Nat) (G:List T) (P:Ps lev G n) (K:kG G.flatten=X) (d:DV) (z:List Rr) (w:qy) (h:Dk lev G n X w d z) (D:Nat) (hd:w.heap[D]? =qw (qm d.cl TDk)):
  yC yG 287 #[qX d.rp d.m d.rc,.func (.func 249) #[] #[qY (qw ⟨D,0,qx⟩)]] w fun e w'=>e=qp (qV qj (-1))/\yI w.heap.size w w':=by
 obtain⟨O,HK⟩:=yQ (fun(k:Nat) (r:Rr) (F:z[k]? =qw r) (w':qy) (M:yI w.heap.size w w')=>qL3 lev n X G P K d h.en h.ic r (h.okr r (qSt F)) w' (h.idx.below M rfl) D (hkeep hd M)) h;have S:=h.m8;have s:=h.rc;obtain⟨m,L⟩:=zB d.m;obtain⟨rc,u⟩:=zB d.rc;obtain⟨rp,p⟩:=zB d.rp;obtain⟨RD,I⟩:=yQ h.rdr h.rm;rw[L]at S s I⊢;rw[u]at s⊢;rw[p]at RD⊢;clear P K h hd L u p;go_enter func287,ntmps287;go_wp2;go_loopw [8] (fun iv wr=>∃k:Nat,k<=m/\iv=qV qj k/\yH (yI w.heap.size w wr)) (fun iv _=>m-(intOf iv).toNat)
 case atStart=>exact⟨0,qQq _,rfl,zH (yN _ _)⟩
 case round=>
  obtain⟨k,hk,rfl,c⟩:=hrel;by_cases B:k<m
  ·have t:k<kG z:=by rw[I.out];exact B
   obtain⟨r,F⟩:=zB (z[k]);have f:z[k]? =qw r:=by rw[qPu t,F]
   have H:=zH (O.out k r f wr c.out);obtain⟨g,a,rfl,y⟩:=RD.out.below c.out rfl k r f;obtain⟨st,o,q,b,l,j,i⟩:=r;have V:wr.cell? ⟨g,a+k*7,qx⟩=qw (qV qj (st:Int)):=y 0 z8;have W:wr.cell? ⟨g,a+k*7+1,qx⟩=qw (qV qj (o:Int)):=y 1 z8;have Y:wr.cell? ⟨g,a+k*7+2,qx⟩=qw (qV qj (q:Int)):=y 2 z8;have Z:wr.cell? ⟨g,a+k*7+3,qx⟩=qw (qV qj (b:Int)):=y 3 z8;have x4:wr.cell? ⟨g,a+k*7+4,qx⟩=qw (qV qj (l:Int)):=y 4 z8;have x5:wr.cell? ⟨g,a+k*7+5,qx⟩=qw (qW j):=y 5 z8;have x6:wr.cell? ⟨g,a+k*7+6,qx⟩=qw (qW i):=y 6 z8;have BW:=zH c.out;rw[show(LRr.cl (⟨st,o,q,b,l,j,i⟩:Rr)).toArray= #[qV qj (st:Int),qV qj (o:Int),qV qj (q:Int),qV qj (b:Int),qV qj (l:Int),qW j,qW i]from rfl]at H;clear y c F f t;go_wp2_with fail;clear V W Y Z x4 x5 x6;(with_reducible refine H.out.mono ?_);rintro e w1 ⟨rfl,x⟩;have N:=zH (BW.out.trans (x.mono BW.out.size));clear x H;go_wp2;go_roundw
   case rel=>exact⟨k+1,za,by go_num,N⟩
   case measure=>simp only[intOf];omega
  ·obtain rfl:k=m:=za
   have BW:=zH c.out;clear c;go_wp2;go_ret;exact⟨rfl,BW.out⟩
theorem qLd (lev n X:Nat) (b:List T) (P:Ps lev b n) (g:kG b.flatten=X) (d:DV) (i:List Rr) (w:qy) (h:Dk lev b n X w d i) (D:Nat) (hd:w.heap[D]? =qw (qm d.cl TDk)):
  yC yG 248 #[qX d.rp d.m d.rc,.func (.func 249) #[] #[qY (qw ⟨D,0,qx⟩)]] w fun e w'=>e=qp (qc yE)/\yI w.heap.size w w':=by
 have c:=zH (zOw lev n X b P g d i w h D hd);clear P g h hd;go_enter func248,ntmps248;go_wp2_with fail;(with_reducible refine c.out.mono ?_);rintro e k ⟨rfl,a⟩;have j:=zH a;clear a c;go_wp2;go_ret;exact⟨rfl,j.out⟩
end Sk
namespace Sk
open Hf Bt Zr Ch St Tn Bk Sm Ix2
open Front (ival)
theorem qN3 {P:Program} {ρ:Operand->qz} {o:Oper} {t u:yA} {x y:Operand} {m n:Int} {b:Bool} (c:o.op= .binOp .neq t x y u) (d:ρ x=qV qj m) (e:ρ y=qV qj n) (a:(m !=n)=b) (w:qy):(execOp ρ o).run P w= .ok (.value (qc b)) w:=by
 unfold execOp;simp[c,d,e,go_sem,a]
theorem zGf (a9 n X:Nat) (ps:List T) (P:Ps a9 ps n) (hX:kG ps.flatten=X) (d:DV) (rs:List Rr) (w:qy) (h:Dk a9 ps n X w d rs):
  yC yG 191 #[d.v] w fun e w'=>e=qp (qc yD)/\yI w.heap.size w w':=by
 obtain⟨E,hE⟩:=zB w.heap.size;obtain⟨W,hW⟩:=zB (w.alloc (qm d.cl TDk));have hb:yI w.heap.size w W:=by rw[<-hW];exact(yN _ _).alloc (qPq _) _
 have hd:W.heap[E]? =qw (qm d.cl TDk):=by rw[<-hW,<-hE];exact zAh w _
 obtain⟨G,i⟩:=yQ (Ix2.zGf a9 n ps P d.ip d.ic W (h.idx.below hb rfl) h.ic) (fun w' (hw:yI W.heap.size W w')=>Cache.zGf d.sh d.sa d.sk w' (by have h1:=h.rgt;unfold xS at h1;unfold maxLen;omega) ((h.shw.src.below hb rfl).below hw rfl));have Y:Cache.right d.sh=yD:=(Cache.zIu d.sh).2 h.rgt;rw[Y]at i;obtain⟨l,HK,z,I,R⟩:=yT (fun w' (hw:yI W.heap.size W w')=>qLd a9 n X ps P hX d rs w' ((h.below hb).below hw) E (hkeep hd hw)) (h.below hb) hd h.held (h.shw.src.below hb rfl);have S:=h.en;have a6:=h.ic;have m1:=h.m1;have m8:=h.m8;have a2:=h.dec;have o:=h.cap;have u:kG d.sh.held<=64:=by have h1:=h.rgt;unfold xS at h1;omega
 have HI:=zH (h.idx.below hb rfl);have hn:=P.many;obtain⟨HB,HW,HE⟩:=yR hb hW hE;obtain⟨a,ip,n',ic,⟨r,j,aa⟩,sa,sk,rp,m,rc,dec⟩:=d;simp only at S a6 m1 m8 a2 o u;subst S;unfold DV.v;unfold DV.cl at z HW⊢;simp only at z HW⊢;obtain⟨H,hH⟩:=zB (kG aa);have a3:=zH hH;unfold Cache.zC7 at i;simp only at G i l I R HI;rw[hH]at z HW i o u⊢;clear h hb hd Y hE hW P hX hH;obtain⟨y0,y1,y2,y3,y4,y5,y6⟩:=qH7 z.out;go_enter func191,ntmps191;go_wp2_with fail;rw[HE.out,show w.alloc (qm #[qW a,qX ip n' ic,qV qj r,qV qj j,qX sa H sk,qX rp m rc,qV qj (dec:Int)] TDk)=W from HW.out];clear y0 y1 y2 y3 y4 y5 y6;(with_reducible refine G.out.mono ?_);rintro e w1 ⟨rfl,F⟩;have W1:=zH F;obtain⟨y0,y1,y2,y3,y4,y5,y6⟩:=qH7 (hkeep z.out F);clear G F;go_wp2_with fail;clear y0 y1 y2 y3 y4 y5 y6;(with_reducible refine(i.out _ W1.out).mono ?_);rintro e w2 ⟨rfl,a0⟩;have W2:=zH (W1.out.trans (a0.mono W1.out.size));obtain⟨y0,y1,y2,y3,y4,y5,y6⟩:=qH7 (hkeep z.out W2.out);clear i a0 W1;go_wp2;clear y0 y1 y2 y3 y4 y5 y6;go_loopw [41] (fun iv wr=>∃k:Nat,k<=H/\iv=qV qj k/\yH (yI W.heap.size W wr)) (fun iv _=>H-(intOf iv).toNat)
 case atStart=>exact⟨0,qQq _,rfl,W2⟩
 case round=>
  obtain⟨k,hk,rfl,f⟩:=hrel;by_cases a5:k<H
  ·have s:k<kG aa:=by rw[a3.out];exact a5
   obtain⟨x,hx⟩:=zB (aa[k]);obtain⟨q,O,a8,p⟩:=I.out x (by rw[<-hx];exact qQ s);obtain⟨g,off,rfl,x0,x1,x2⟩:=(R.out.below f.out rfl) k x (by rw[qPu s,hx]);obtain⟨g2,o2,rfl,e0,e1,e2,e3,e4⟩:=rdE (HI.out.below f.out rfl) q _ (qIx a9 ps n' q a8);obtain⟨ab,st,b⟩:=x;simp only at O p x0 x1 x2;subst O;have K:(b.size:Int)=(kG (ps.getD q []):Int):=by rw[p,Rle.zCh]
   have L:wr.cell? ⟨g2,o2+q*5+3,qx⟩=qw (qV qj (b.size:Int)):=by rw[K];exact e3
   obtain⟨V,hV⟩:=zB (wr.alloc (qm #[qV qj (q:Int),qV qj st,qW b] THd));obtain⟨Z,hZ⟩:=zB wr.heap.size;have B:V.drew.heap[Z]? =qw (qm #[qV qj (q:Int),qV qj st,qW b] THd):=by rw[<-hV,<-hZ];exact zAh wr _
   have N:V.drew.heap[E]? =qw (qm #[qW a,qX (qw ⟨g2,o2,qx⟩) n' ic,qV qj r,qV qj j,qX (qw ⟨g,off,qx⟩) H sk,qX rp m rc,qV qj (dec:Int)] TDk):=by
    rw[<-hV];exact(Lib.alloc_old _ _ _ (zAd (hkeep z.out f.out))).trans (hkeep z.out f.out)
   have L0:=yP ((loadVar 3 ⟨Z,0,qx⟩).run yG V.drew= .ok (qV qj (q:Int)) V.drew) (yh (by simp[yM,B]) zf zf);have L2:=yP ((loadVar 9 ⟨Z,2,qx⟩).run yG V.drew= .ok (qW b) V.drew) (yh (by simp[yM,B]) zf zf);have LD:=yP ((loadVar TEs ⟨E,1,qx⟩).run yG V.drew= .ok (qX (qw ⟨g2,o2,qx⟩) n' ic) V.drew) (yh (by simp[yM,N]) zf zf);have LE:=yP ((loadVar 3 ⟨g2,o2+q*5+3,qx⟩).run yG V.drew= .ok (qV qj (b.size:Int)) V.drew) (yh (by show V.cell? _=_;rw[<-hV];exact qIt L) zf zf);have BV:=yP (yI W.heap.size W V.drew) (by rw[<-hV];exact(f.out.alloc f.out.size _).drew);have M:decide ((n':Int)<=(q:Int))=yE:=zq
   have hne:((b.size:Int)!=(b.size:Int))=yE:=by simp
   obtain⟨a7,a4,HV,HZ⟩:=yS M hne hV hZ;clear hx p e0 e1 e2 e3 e4 K L B N M hne f hV hZ s;go_wp2;clear x0 x1 x2;rw[show wr.alloc (qm #[qV qj (q:Int),qV qj st,qW b] THd)=V from HV.out,HZ.out];refine zS [] (fun _=>True) [0,1,0,4,8,18,32,64,192,320,64,1088,64,4160,10304,16448,32832,66112,131136] 19<|zp [0,1,2,3,4,5,6,7,8,9,10,11,12,13,14,15,16,17,18]<|zk 45 (zP Z 0)<|zt 46 (zI q) (zl 3 45 (L0.out))<|zk 47 (zP E 1)<|zt 48 (qX (qw ⟨g2,o2,qx⟩) n' ic) (zl 30 47 (LD.out))<|zk 49 (zI n')<|zt 50 (qc yE) (qMj (x:= .tmp 46) (y:= .tmp 49) rfl zf zf a7.out _)<|zk 51 (qc yE)<|zk 52 (zP Z 2)<|zt 53 (qW b) (zl 9 52 (L2.out))<|zk 54 (qV qj (b.size:Int))<|zk 55 (zP E 1)<|zt 56 (qX (qw ⟨g2,o2,qx⟩) n' ic) (zl 30 55 (LD.out))<|zk 57 (zP Z 0)<|zt 58 (zI q) (zl 3 57 (L0.out))<|zt 59 (qY (qw ⟨g2,o2+q*5,qx⟩)) (Kit.qCt (t:=30) (x:=(.tmp 56)) (y:=(.tmp 58)) (g:=g2) (off:=o2) (n:=n') (c:=ic) (k:=q) (sz:=5) rfl zf zf za underlying30 (fun _=>sizeOf107 _) _)<|zk 60 (qY (qw ⟨g2,o2+q*5+3,qx⟩))<|zt 61 (qV qj (b.size:Int)) (zl 3 60 (LE.out))<|zt 62 (qc yE) (qN3 (x:= .tmp 54) (y:= .tmp 61) rfl zf zf a4.out _)<|zk 63 (qc yE)<|zn<|zE<| ?_
   simp only[zP,zI,Act.put,qPz,qPy,qP0];go_wp2;go_roundw
   case rel=>exact⟨k+1,za,by go_num,BV⟩
   case measure=>simp only[intOf];omega
  ·obtain rfl:k=H:=za
   have BW:=zH f.out;obtain⟨y0,y1,y2,y3,y4,y5,y6⟩:=qH7 (hkeep z.out f.out);clear f;go_wp2_with fail;clear y0 y1 y2 y3 y4 y5 y6;(with_reducible refine(l.out _ BW.out).mono ?_);rintro e w4 ⟨rfl,a1⟩;have B4:=zH (HB.out.trans ((BW.out.trans (a1.mono BW.out.size)).mono HB.out.size));clear a1 l;go_wp2;go_ret;exact⟨rfl,B4.out⟩
end Sk
namespace Sk
open Hf Bt Zr Ch Tn Sm Ix2 Sd
open Front (ival)
variable {w:qy} {B:Nat} {arr:Array qz} {t:yA}
theorem qI0 {i:Nat} {x:qz} (h:w.heap[B]? =qw (qm arr t)):(w.setCell ⟨B,i,qx⟩ x).heap[B]? =qw (qm (arr.setIfInBounds i x) t):=by
 simp[World.setCell,qQs,h]
theorem qH9 (h:w.heap[B]? =qw (qm arr t)) (i:Nat):w.frozen? ⟨B,i,qx⟩=yE:=by simp[World.frozen?,h]
theorem ld7 {a b c d e f g:qz} (h:w.heap[B]? =qw (qm #[a,b,c,d,e,f,g] TDk)):(loadVar TDk ⟨B,0,qx⟩).run yG w= .ok (.agg #[a,b,c,d,e,f,g]) w:=by
 obtain⟨i,j,y2,k,l,m,n⟩:=qH7 h;simp[loadVar,go_sem,i,j,y2,k,l,m,n]
theorem qLe (g n X:Nat) (f:List T) (P:Ps g f n) (i:kG f.flatten=X) (d:DV) (p:d.n=n) (k:n<=d.ic) (o m:Nat) (z:o<=100000000) (y:m<=100000000) (w:qy) (hi:xJ LEn w d.ip (ents g f n)):
  yC yG 145 #[d.v,qV qj (o:Int),qV qj (m:Int)] w fun e w'=>e=qp (qV qj (if X<o+m then 8 else 0))/\yI w.heap.size w w':=by
 have x:X<=10000:=by rw[<-i];exact P.all
 have c:=zH (fun w' (q:yI w.heap.size w w')=>qJy g n f P d.ip d.ic w' (hi.below q rfl) k i);obtain⟨a,G,H,F,⟨u,r,s⟩,K,L,rp,m',I,dec⟩:=d;simp only at p k c;subst p;unfold DV.v DV.cl;clear P hi i;by_cases l:X<o+m
 ·rw[qPr l];go_enter func145,ntmps145;go_wp2_with fail;(with_reducible refine(c.out _ ((yN _ _).alloc (qPq _) _)).mono ?_);rintro e j ⟨rfl,b⟩;have h:=yP (yI w.heap.size w j) (((yN w.heap.size w).alloc (qPq _) _).trans (b.mono (by rw[zA];omega)));clear b c;go_wp2;go_ret;exact⟨rfl,h.out⟩
 ·rw[qPt l];go_enter func145,ntmps145;go_wp2_with fail;(with_reducible refine(c.out _ ((yN _ _).alloc (qPq _) _)).mono ?_);rintro e j ⟨rfl,b⟩;have h:=yP (yI w.heap.size w j) (((yN w.heap.size w).alloc (qPq _) _).trans (b.mono (by rw[zA];omega)));clear b c;go_wp2;go_ret;exact⟨rfl,h.out⟩
theorem zCk (o n X:Nat) (l:List T) (P:Ps o l n) (u:kG l.flatten=X) (d:DV) (x:List Rr) (r:Nat) (M:r<d.m) (w:qy) (h:Dk o l n X w d x):
  yC yG 141 #[d.v,qV qj (r:Int)] w fun e w'=>e=qp (qV qj 0)/\yI w.heap.size w w':=by
 obtain⟨E,q⟩:=zB w.heap.size;obtain⟨W,k⟩:=zB (w.alloc (qm d.cl TDk));have s:yI w.heap.size w W:=by rw[<-k];exact(yN _ _).alloc (qPq _) _
 have j:=yP (W.heap[E]? =qw (qm d.cl TDk)) (by rw[<-k,<-q];exact zAh w _);have b:=zH (zGf o n X l P u d x W (h.below s));have R:=h.m8;obtain⟨HB,p,L⟩:=yR s k q;obtain⟨a,O,S,N,⟨i,f,g⟩,Y,Z,rp,m,V,dec⟩:=d;simp only at M R;unfold DV.v at b⊢;unfold DV.cl at j p b⊢;simp only at j p b⊢;clear P u h s k q;obtain⟨y,z,y2,F,G,H,I⟩:=qH7 j.out;go_enter func141,ntmps141;go_wp2_with fail;rw[show w.alloc (qm #[qW a,qX O S N,qV qj i,qV qj f,qX Y (kG g) Z,qX rp m V,qV qj (dec:Int)] TDk)=W from p.out];clear y z y2 F G H I;(with_reducible refine b.out.mono ?_);rintro e w1 ⟨rfl,c⟩;have K:=zH (HB.out.trans (c.mono HB.out.size));obtain⟨y,z,y2,F,G,H,I⟩:=qH7 (hkeep j.out c);clear b c;rw[L.out];go_wp2;go_ret;exact⟨rfl,K.out⟩
abbrev ZD:Array qz:= #[qW ⟨#[]⟩,qX qx 0 0,qV qj 0,qV qj 0,qX qx 0 0,qX qx 0 0,qV qj 0]
theorem Dk.qO4 {c n X:Nat} {i:List T} {d:DV} {a:List Rr} (h:Dk c i n X w d a):qIz d.rp d.m d.rc:=fun e=>by
 have f:0<kG a:=by rw[h.rm];exact h.m1
 obtain⟨b,off,g,_⟩:=h.rdr 0 a[0] (qPu f);rw[g]at e;cases e
structure Cp (lev:Nat) (ps:List T) (n X:Nat) (w:qy) (B:Nat) (d d':DV) (rs:List Rr):Prop where
 dk:Dk lev ps n X w d' rs
 own:yj LRr w B TRr d'.rp d'.m d'.rc rs
 ea:d'.a=d.a
 es:d'.sh=d.sh
 em:d'.m=d.m
 ed:d'.dec=d.dec
theorem qKp (a0 n X:Nat) (ps:List T) (d:DV) (rs:List Rr) (w:qy) (h:Dk a0 ps n X w d rs) (a1:n<=1000):
  yC yG 143 #[d.v] w fun e w'=>∃d',e=qp d'.v/\Cp a0 ps n X w' w.heap.size d d' rs/\yI w.heap.size w w':=by
 have HK:=zH h;obtain⟨B,hB⟩:=zB w.heap.size;obtain⟨W,hW⟩:=zB ((w.alloc (qm d.cl TDk)).alloc (qm ZD TDk));have q:yI w.heap.size w W:=by rw[<-hW];exact((yN _ _).alloc (qPq _) _).alloc (by rw[zA];omega) _
 have hz:W.heap.size=B+2:=by rw[<-hW,zA,zA,hB]
 have HD:=yP (W.heap[B]? =qw (qm d.cl TDk)) (by rw[<-hW,<-hB];exact(Lib.alloc_old _ _ _ (by rw[zA];omega)).trans (zAh w _));have HR:=yP (W.heap[B+1]? =qw (qm ZD TDk)) (by rw[<-hW,<-hB,<-zA w (qm d.cl TDk)];exact zAh _ _);have HH:=zH (h.below q);have L:=h.en;have t:=h.cap;have m8:=h.m8;have x:kG d.sh.held<=64:=by have h1:=h.rgt;unfold xS at h1;omega
 have HB:=yP (yI B w W) (by rw[<-hB];exact q);obtain⟨HZ,HE,HW,u⟩:=yS hz hB hW (qNu (ents a0 ps n) n (qLc a0 ps n) za d.ip d.ic h.inil W (h.idx.below q rfl));obtain⟨a,ip,z,ic,sh,sa,sk,rp,m,rc,dec⟩:=d;simp only at L t m8 x u;subst L;unfold DV.v;unfold DV.cl at HD HW⊢;simp only at HD HW⊢;rw[hB];clear h q hz hW hB;obtain⟨f,c,y⟩:=sh;simp only at HD HW t x⊢;obtain⟨y0,y1,y2,y3,y4,y5,y6⟩:=qH7 HD.out;go_enter func143,ntmps143;go_wp2_with fail;rw[HE.out,show(w.alloc (qm #[qW a,qX ip z ic,qV qj f,qV qj c,qX sa (kG y) sk,qX rp m rc,qV qj (dec:Int)] TDk)).alloc (qm ZD TDk)=W from HW.out];clear y0 y1 y2 y3 y4 y5 y6;(with_reducible refine u.out.mono ?_);rintro e w1 ⟨Z,c1,rfl,G,F,o⟩;obtain⟨D1,R1⟩:=yQ (hkeep HD.out o) (hkeep HR.out o);obtain⟨y0,y1,y2,y3,y4,y5,y6⟩:=qH7 D1.out;have f1:=qH9 D1.out 1;obtain⟨v1,j⟩:=zB (w1.setCell ⟨B,1,qx⟩ (qX Z z c1));have D2:=yP (v1.heap[B]? =qw (qm #[qW a,qX Z z c1,qV qj f,qV qj c,qX sa (kG y) sk,qX rp m rc,qV qj (dec:Int)] TDk)) (by rw[<-j];exact qI0 D1.out);have R2:=yP (v1.heap[B+1]? =qw (qm ZD TDk)) (by rw[<-j];exact(zAa (Nat.succ_ne_self B)).trans R1.out);have O2:=yP (yj LEn v1 (B+2) TEn Z z c1 (ents a0 ps z)) (by rw[<-HZ.out,<-j];exact qIj G (fun b q=>zAa q) (by rw[HZ.out];omega));have B2:=yP (yI B w v1/\B+2<=v1.heap.size) ⟨by rw[<-j];exact(HB.out.trans (o.mono (by rw[HZ.out];omega))).setCell (p:=⟨B,1,qx⟩) (qPq _) _,by rw[<-j];have:=o.size;have:=HZ.out;simp;omega⟩;obtain⟨N2,V,K2⟩:=yR F j (HK.out.below (by rw[HE.out];exact B2.out.1));have N:=zH (qNt y (kG y) rfl za sa sk K2.out.shw.nil v1 (qI3.1 K2.out.shw.src));clear u G F o j;go_wp2_with fail;rw[show w1.setCell ⟨B,1,qx⟩ (qX Z z c1)=v1 from V.out];clear y0 y1 y2 y3 y4 y5 y6 f1;(with_reducible refine N.out.mono ?_);rintro e w2 ⟨p2,c2,rfl,P,O,l⟩;obtain⟨D3,R3,O3⟩:=yR (hkeep D2.out l) (hkeep R2.out l) (O2.out.below l (qPq _));obtain⟨y0,y1,y2,y3,y4,y5,y6⟩:=qH7 D3.out;have f1:=qH9 D3.out 4;obtain⟨v2,i⟩:=zB (w2.setCell ⟨B,4,qx⟩ (qX p2 (kG y) c2));have D4:=yP (v2.heap[B]? =qw (qm #[qW a,qX Z z c1,qV qj f,qV qj c,qX p2 (kG y) c2,qX rp m rc,qV qj (dec:Int)] TDk)) (by rw[<-i];exact qI0 D3.out);have R4:=yP (v2.heap[B+1]? =qw (qm ZD TDk)) (by rw[<-i];exact(zAa (Nat.succ_ne_self B)).trans R3.out);have O4:=yP (yj LEn v2 (B+2) TEn Z z c1 (ents a0 ps z)) (by rw[<-i];exact qIj O3.out (fun b q=>zAa q) za);have P4:=yP (yj LHd v2 (B+2) THd p2 (kG y) c2 y) (by rw[<-i];exact qIj (P.base B2.out.2) (fun b q=>zAa q) za);have B4:=yP (yI B w v2/\B+2<=v2.heap.size) ⟨by rw[<-i];exact(B2.out.1.trans (l.mono (by have:=B2.out.2;omega))).setCell (p:=⟨B,4,qx⟩) (qPq _) _,by rw[<-i];have:=l.size;have:=B2.out.2;simp;omega⟩;obtain⟨N4,S,K4⟩:=yR O i (HK.out.below (by rw[HE.out];exact B4.out.1));have I:=zH (qNs rs m K4.out.rm za rp rc K4.out.qO4 v2 K4.out.rdr);clear N P O l i D1 R1 D2 R2 O2 B2 K2 D3 R3 O3;go_wp2_with fail;rw[show w2.setCell ⟨B,4,qx⟩ (qX p2 (kG y) c2)=v2 from S.out];clear y0 y1 y2 y3 y4 y5 y6 f1;(with_reducible refine I.out.mono ?_);rintro e w3 ⟨p3,c3,rfl,H,M,k⟩;obtain⟨D5,R5,O5,P5⟩:=yS (hkeep D4.out k) (hkeep R4.out k) (O4.out.below k (qPq _)) (P4.out.below k (qPq _));obtain⟨y0,y1,y2,y3,y4,y5,y6⟩:=qH7 D5.out;have f1:=qH9 D5.out 5;obtain⟨v3,g⟩:=zB (w3.setCell ⟨B,5,qx⟩ (qX p3 m c3));have D6:=yP (v3.heap[B]? =qw (qm #[qW a,qX Z z c1,qV qj f,qV qj c,qX p2 (kG y) c2,qX p3 m c3,qV qj (dec:Int)] TDk)) (by rw[<-g];exact qI0 D5.out);have R6:=yP (v3.heap[B+1]? =qw (qm ZD TDk)) (by rw[<-g];exact(zAa (Nat.succ_ne_self B)).trans R5.out);have O6:=yP (yj LEn v3 (B+2) TEn Z z c1 (ents a0 ps z)) (by rw[<-g];exact qIj O5.out (fun b q=>zAa q) za);have P6:=yP (yj LHd v3 (B+2) THd p2 (kG y) c2 y) (by rw[<-g];exact qIj P5.out (fun b q=>zAa q) za);have Q6:=yP (yj LRr v3 (B+2) TRr p3 m c3 rs) (by rw[<-g];exact qIj (H.base B4.out.2) (fun b q=>zAa q) za);have B6:=yP (yI B w v3/\B+2<=v3.heap.size) ⟨by rw[<-g];exact(B4.out.1.trans (k.mono (by have:=B4.out.2;omega))).setCell (p:=⟨B,5,qx⟩) (qPq _) _,by rw[<-g];have:=k.size;have:=B4.out.2;simp;omega⟩;obtain⟨N6,R⟩:=yQ M g;obtain⟨z0,z1,z2,z3,z4,z5,z6⟩:=qH7 R5.out;have g0:=qH9 R5.out 0;have g1:=qH9 R5.out 1;have g2:=qH9 R5.out 2;have g3:=qH9 R5.out 3;have g4:=qH9 R5.out 4;have g5:=qH9 R5.out 5;have g6:=qH9 R5.out 6;clear I H M k g D4 R4 O4 P4 B4 K4 D5 R5 O5 P5;go_wp2;clear y0 y1 y2 y3 y4 y5 y6 f1 z0 z1 z2 z3 z4 z5 z6 g0 g1 g2 g3 g4 g5 g6;rw[show w3.setCell ⟨B,5,qx⟩ (qX p3 m c3)=v3 from R.out];obtain⟨v4,s⟩:=zB (((((((v3.setCell ⟨B+1,0,qx⟩ (qW a)).setCell ⟨B+1,1,qx⟩ (qX Z z c1)).setCell ⟨B+1,2,qx⟩ (qV qj f)).setCell ⟨B+1,3,qx⟩ (qV qj c)).setCell ⟨B+1,4,qx⟩ (qX p2 (kG y) c2)).setCell ⟨B+1,5,qx⟩ (qX p3 m c3)).setCell ⟨B+1,6,qx⟩ (qV qj (dec:Int)));have hR:v4.heap[B+1]? =qw (qm #[qW a,qX Z z c1,qV qj f,qV qj c,qX p2 (kG y) c2,qX p3 m c3,qV qj (dec:Int)] TDk):=by
  rw[<-s];exact qI0 (qI0 (qI0 (qI0 (qI0 (qI0 (qI0 R6.out))))))
 have r:∀b,b≠B+1->v4.heap[b]? =v3.heap[b]? :=fun b q=>by
  rw[<-s];exact(zAa q).trans ((zAa q).trans ((zAa q).trans ((zAa q).trans ((zAa q).trans ((zAa q).trans (zAa q))))))
 have Y:yI B w v4:=by
  rw[<-s];exact((((((B6.out.1.setCell (p:=⟨B+1,0,qx⟩) (qRu _) _).setCell (p:=⟨B+1,1,qx⟩) (qRu _) _).setCell (p:=⟨B+1,2,qx⟩) (qRu _) _).setCell (p:=⟨B+1,3,qx⟩) (qRu _) _).setCell (p:=⟨B+1,4,qx⟩) (qRu _) _).setCell (p:=⟨B+1,5,qx⟩) (qRu _) _).setCell (p:=⟨B+1,6,qx⟩) (qRu _) _
 have o1:=qIj O6.out r za;have o2:=qIj P6.out r za;have o3:=qIj Q6.out r za;rw[show((((((v3.setCell ⟨B+1,0,qx⟩ (qW a)).setCell ⟨B+1,1,qx⟩ (qX Z z c1)).setCell ⟨B+1,2,qx⟩ (qV qj f)).setCell ⟨B+1,3,qx⟩ (qV qj c)).setCell ⟨B+1,4,qx⟩ (qX p2 (kG y) c2)).setCell ⟨B+1,5,qx⟩ (qX p3 m c3)).setCell ⟨B+1,6,qx⟩ (qV qj (dec:Int))=v4 from s];refine qP5 (v:= .agg #[qW a,qX Z z c1,qV qj f,qV qj c,qX p2 (kG y) c2,qX p3 m c3,qV qj (dec:Int)]) (Cache.qIw rfl _ _ _ ⟨B+1,0,qx⟩ _ rfl (ld7 hR)) rfl ?_;have K:=HK.out;refine⟨⟨a,Z,z,c1,⟨f,c,y⟩,p2,c2,p3,m,c3,dec⟩,rfl,⟨⟨rfl,qKi o1,o1.rd,N2.out,⟨qI3.2 o2.rd,N4.out,K.shw.wf⟩,qKi o2,K.rgt,K.held,o3.rd,K.rm,K.m1,K.m8,qKi o3,K.okr,K.dec,Ty.own o1,Ty.own o2,Ty.own o3⟩,o3.base za,rfl,rfl,rfl,rfl⟩,Y⟩
end Sk
namespace Sk
open Hf Bt Zr Wg Ch Sm Ix2 Sd
open Front (ival)
variable {w:qy} {B:Nat} {a b c:qz}
theorem st7 {d e f g a' b' c' d' e' f' g':qz} (h:w.heap[B]? =qw (qm #[a,b,c,d,e,f,g] TDk)) (n:∀z∈[a',b',c',d',e',f',g'],z.oneCell'=yD):
  ∃w',((((((w.setCell ⟨B,0,qx⟩ a').setCell ⟨B,1,qx⟩ b').setCell ⟨B,2,qx⟩ c').setCell ⟨B,3,qx⟩ d').setCell ⟨B,4,qx⟩ e').setCell ⟨B,5,qx⟩ f').setCell ⟨B,6,qx⟩ g'=w'/\(storeVar TDk ⟨B,0,qx⟩ (.agg #[a',b',c',d',e',f',g'])).run yG w= .ok () w'/\w'.heap[B]? =qw (qm #[a',b',c',d',e',f',g'] TDk)/\(∀D,D<=B->yI D w w')/\w'.heap.size=w.heap.size/\(∀k,k≠B->w'.heap[k]? =w.heap[k]?):=by
 obtain⟨c0,c1,c2,c3,c4,c5,m⟩:=qH7 h;have i:=qSm (P:=yG) w B 0 TDk #[a',b',c',d',e',f',g'] (fun j p=>by
  have r:j<7:=p;refine⟨?_,qH9 h _⟩;obtain rfl|rfl|rfl|rfl|rfl|rfl|rfl:j=0\/j=1\/j=2\/j=3\/j=4\/j=5\/j=6:=za
  ·rw[show 0+0=0 from rfl,c0];rfl
  ·rw[show 0+1=1 from rfl,c1];rfl
  ·rw[show 0+2=2 from rfl,c2];rfl
  ·rw[show 0+3=3 from rfl,c3];rfl
  ·rw[show 0+4=4 from rfl,c4];rfl
  ·rw[show 0+5=5 from rfl,c5];rfl
  ·rw[show 0+6=6 from rfl,m];rfl) zf (by simpa using n)
 have l:=Kit.zDl [a',b',c',d',e',f',g'] w B 0 _ _ _ h;rw[show xI #[a,b,c,d,e,f,g] 0 [a',b',c',d',e',f',g']= #[a',b',c',d',e',f',g']by simp[xI]]at l;exact⟨w.setCells B 0 [a',b',c',d',e',f',g'],rfl,i,l,fun D o=>yt _ B 0 (yN _ w) o,xC _ w B 0,fun k q=>xB _ w B 0 k q⟩
theorem qOl (d:Nat) (f:1<=d) (g:d<=64):Cache.newS (d:Int)=⟨d,0,[]⟩/\Cache.newE (d:Int)=0/\xS ⟨d,0,[]⟩:=by
 have e:xS ⟨d,0,[]⟩:=by
  unfold xS Cache.Good;exact⟨by simp only;omega,by simp only;omega,zm,zm,zm,zm,by simp[Cache.qId],by simp[Cache.Apart]⟩
 have h:=(Cache.zIu _).2 e;unfold Cache.newS Cache.newE;rw[qPr h,qPr h];exact⟨rfl,rfl,e⟩
theorem run_mk {P:Program} {ρ:Operand->qz} {o:Oper} {w' d:qy} {n m k:Nat} (f:w.heap.size=n) (e:w'=d) (h:(execOp ρ o).run P w= .ok (.value (qX (qw ⟨w.heap.size,0,qx⟩) m k)) w'):(execOp ρ o).run P w= .ok (.value (qX (qw ⟨n,0,qx⟩) m k)) d:=by
 subst f e;exact h
abbrev TSf:yA:=36
theorem qOx (h:w.heap[B]? =qw (qm #[a,b,c] TSf)):(loadVar TSf ⟨B,0,qx⟩).run yG w= .ok (.agg #[a,b,c]) w:=by
 simp[loadVar,go_sem,yM,h]
abbrev Z14:Array qz:=(Kit.flat LRr [free,free]).toArray
theorem qNp (a5 n X:Nat) (ps:List T) (a:ByteArray) (m:Nat) (r1:1<=m) (r2:m<=64) (F:FuncId) (a4:Array qz) (hF:∀(args:Array qz) (w:qy),(callFunc F args).run yG w= .ok (.enter F args) w) (w:qy)
  (hT:∀w',yI w.heap.size w w'->yC yG F a4 w' fun e a6=>∃p c,e=qp (qZ #[qX p n c,qV qj 0])/\yj LEn a6 w'.heap.size TEn p n c (ents a5 ps n)/\yI w'.heap.size w' a6):
  yC yG 58 #[qW a,qV qj (m:Int),qV qj 2,.func (.func F) #[] a4] w fun e w'=>∃d,e=qp (qZ #[d.v,qV qj 0])/\Dk a5 ps n X w' d [free,free]/\d.a=a/\d.sh=⟨m,0,[]⟩/\d.dec=0/\d.m=2/\yI w.heap.size w w':=by
 obtain⟨n1,n2,n3⟩:=qOl m r1 r2;have HN:=zH (fun w'=>Cache.qN7 (m:Int) w');rw[n1,n2]at HN;unfold Cache.zC7 at HN;obtain⟨HR,HT⟩:=yQ n3 hT;obtain⟨B,y⟩:=zB w.heap.size;have HE:=zH y;obtain⟨W,hW⟩:=zB (w.alloc (qm ZD TDk));have HB:=yP (yI B w W/\W.heap.size=B+1) ⟨by rw[<-hW,<-y];exact(yN _ _).alloc (qPq _) _,by rw[<-hW,zA,y]⟩;have O:=yP (W.heap[B]? =qw (qm ZD TDk)) (by rw[<-hW,<-y];exact zAh w _);have HW:=zH hW;rw[y];clear n1 n2 n3 hT y hW;go_enter func58,ntmps58;go_wp2_with fail;rw[HE.out,show w.alloc (qm ZD TDk)=W from HW.out];(with_reducible refine(HN.out _).mono ?_);rintro e z ⟨rfl,l⟩;have R1:=zH (hkeep O.out l);have B1:=yP (yI B w z/\B+1<=z.heap.size) ⟨HB.out.1.trans (l.mono (by have:=HB.out.2;omega)),by have:=l.size;have:=HB.out.2;omega⟩;clear HN l;obtain⟨w2,f⟩:=zB (z.alloc (qm #[qV qj (m:Int),qV qj 0,qX qx 0 0] 36));obtain⟨S,hS⟩:=zB z.heap.size;have S2:=yP (w2.heap[S]? =qw (qm #[qV qj (m:Int),qV qj 0,qX qx 0 0] 36)) (by rw[<-f,<-hS];exact zAh z _);have B2:=yP (yI B w w2/\B+1<=w2.heap.size) ⟨by rw[<-f];exact B1.out.1.alloc (by have:=B1.out.2;omega) _,by rw[<-f,zA];have:=B1.out.2;omega⟩;have R2:=yP (w2.heap[B]? =qw (qm ZD TDk)) (by rw[<-f];exact(Lib.alloc_old _ _ _ (zAd R1.out)).trans R1.out);obtain⟨H,R,HS⟩:=yR (HT.out w2 (by rw[HE.out];exact B2.out.1)) f hS;clear f hS HT B1 R1;go_wp2_with fail;rw[show z.alloc (qm #[qV qj (m:Int),qV qj 0,qX qx 0 0] 36)=w2 from R.out,HS.out];(with_reducible refine H.out.mono ?_);rintro e q ⟨p,c,rfl,ho,i⟩;have x:=qKi ho;have M:qIz p n c:=fun e=>by
  subst e;obtain⟨_,h2⟩:=ho;rcases h2 with⟨h2,h4⟩|⟨g,a8,a9,hv,_⟩
  ·injection h2 with _ h5 h6;exact⟨h4,h6⟩
  ·injection hv with ha;cases ha
 have O3:=zH (ho.rd);have B3:=yP (yI B w q.drew/\B+1<=q.drew.heap.size) ⟨(B2.out.1.trans (i.mono (by have:=B2.out.2;omega))).drew,by have:=i.size;have:=B2.out.2;show _<=q.heap.size;omega⟩;have R3:=yP (q.drew.heap[B]? =qw (qm ZD TDk)) (hkeep R2.out i.drew);have G:q.drew.heap[S]? =qw (qm #[qV qj (m:Int),qV qj 0,qX qx 0 0] 36):=hkeep S2.out i.drew;have S3:=zH G;obtain⟨w4,b⟩:=zB (q.drew.alloc (qm Z14 TRr));obtain⟨Z,hZ⟩:=zB q.drew.heap.size;have a1:w4.heap[Z]? =qw (qm Z14 TRr):=by rw[<-b,<-hZ];exact zAh _ _
 have I:w4.heap[B]? =qw (qm ZD TDk):=by rw[<-b];exact(Lib.alloc_old _ _ _ (zAd R3.out)).trans R3.out
 have j:=Kit.zNf (L:=LRr) q.drew [free,free] TRr q.drew.heap.size (qPq _) (by unfold maxLen;simp);rw[hZ,b]at j;obtain⟨w5,_,t,K,s,N,k⟩:=st7 (a':=qW a) (b':=qX p n c) (c':=qV qj (m:Int)) (d':=qV qj 0) (e':=qX qx 0 0) (f':=qX (qw ⟨Z,0,qx⟩) 2 2) (g':=qV qj 0) I (by simp[Value.oneCell']);obtain⟨H5,a3,Y,HZ⟩:=yS K t b hZ;have S4:=yP (w4.heap[S]? =qw (qm #[qV qj (m:Int),qV qj 0,qX qx 0 0] TSf)) (by rw[<-b];exact(Lib.alloc_old _ _ _ (zAd S3.out)).trans S3.out);obtain⟨HO,o⟩:=yQ j k;have B5:=yP (yI B w w5) ((show yI B w w4 by rw[<-b];exact B3.out.1.alloc (by have:=B3.out.2;omega) _).trans (s B (qPq _)));have V:=yP (yI q.drew.heap.size q.drew w4) (by rw[<-b];exact(yN _ _).alloc (qPq _) _);obtain⟨a2,P,a0⟩:=yR x M ho;have a7:=yP (w2.heap.size<=q.heap.size) i.size;clear H ho i G b hZ a1 I j K t s N k x M;go_wp2;refine zS [6] (fun W9=>W9.heap[S]? =qw (qm #[qV qj (m:Int),qV qj 0,qX qx 0 0] TSf)) [0,0,0,0,8,23,63,127] 8<|zu 0 38 (qW a)<|zu 1 39 (qX p n c)<|zy 2 40 (.agg #[qV qj (m:Int),qV qj 0,qX qx 0 0]) (fun w hS=>zl 36 10 (qOx hS)) S3.out<|zp [3]<|zk 41 (qV qj 2)<|zn<| ?_
 refine Kit.zLe (w':=w4) 4 (qw 42) (qX (qw ⟨Z,0,qx⟩) 2 2) 31 zf zf rfl rfl zf (run_mk HZ.out Y.out zf) (.inr (.inr (S4.out))) ?_;refine zp [5]<|zk 43 (.agg #[qW a,qX p n c,qV qj (m:Int),qV qj 0,qX qx 0 0,qX (qw ⟨Z,0,qx⟩) 2 2,qV qj 0])<|zn<|zw 6 qx (zr 39 8 43 (a3.out)) (.inr (.inl zf))<|zp [7]<|zk 9 (qV qj 0)<|zn<|zE<| ?_
 simp only[zP,zI,Act.put,qPz,qPy,qP0];go_wp2;refine qP5 (v:=qZ #[.agg #[qW a,qX p n c,qV qj (m:Int),qV qj 0,qX qx 0 0,qX (qw ⟨Z,0,qx⟩) 2 2,qV qj 0],qV qj 0]) ?_ rfl ?_
 ·exact Cache.qJa (p:=8) (u:=9) rfl _ _ _ ⟨B,0,qx⟩ _ rfl (ld7 H5.out)
 have aa:B+1<=Z:=by have:=B3.out.2;have:=HZ.out;omega
 have o1:=qIj ((a0.out.below (yN q.heap.size q).drew (qPq _)).below V.out (qPq _)) o.out (by have:=B2.out.2;omega);have o2:=qIj HO.out o.out za;refine⟨⟨a,p,n,c,⟨m,0,[]⟩,qx,0,qw ⟨Z,0,qx⟩,2,2,0⟩,rfl,⟨rfl,a2.out,o1.rd,P.out,⟨Cache.qIg.nil _ _,fun _=>⟨rfl,rfl⟩,fun h hh=>by cases hh⟩,qPq _,HR.out,fun h hh=>(by cases hh),o2.rd,rfl,(by decide:1<=2),(by decide:2<=8),qPq _,fun r hr=> ?_,qQq _,Ty.own o1,fun _ _ h=>(by cases h),Ty.own o2⟩,rfl,rfl,rfl,rfl,B5.out⟩;simp only[qP7,qT8,or_false,or_self]at hr;exact .inl hr
end Sk
namespace Sk
open Hf Bt Zr Ch Tn Sm Ix2 Sd
open Front (ival)
variable {lev n X B D g:Nat} {w w':qy} {u v:qz}
abbrev TAt:yA:=254
abbrev TPd:yA:=252
structure Dm (lev:Nat) (ps:List T) (n:Nat) (w:qy) (d:DV):Prop where
 en:d.n=n
 ic:n<=d.ic
 idx:xJ LEn w d.ip (ents lev ps n)
 inil:qIz d.ip n d.ic
 shw:kC w d.sh d.sa d.sk
 cap:kG d.sh.held<=d.sk
 rgt:xS d.sh
 held:∀h∈d.sh.held,∃k:Nat,h.blk=(k:Int)/\k<n/\h.txt=Rle.bs (ps.getD k [])
 m1:1<=d.m
 m8:d.m<=8
 rc:d.m<=d.rc
 dec:d.dec<=1099511627776
 tI:Ty w d.ip TEn
 tS:Ty w d.sa THd
theorem Dm.below {b:List T} {d:DV} (h:Dm lev b n w d) (a:yI w.heap.size w w'):Dm lev b n w' d:=
 ⟨h.en,h.ic,h.idx.below a rfl,h.inil,h.shw.below a rfl,h.cap,h.rgt,h.held,h.m1,h.m8,h.rc,h.dec,h.tI.below a,h.tS.below a⟩
theorem Dm.far {i:List T} {d:DV} {R:Nat} {j:Array qz} {t:yA} {f:Nat×Nat} (h:Dm lev i n w d) (a:w.heap[R]? =qw (qm j t f)) (c:TEn≠t) (e:THd≠t) (b:∀k,k≠R->w'.heap[k]? =w.heap[k]?):Dm lev i n w' d:=
 ⟨h.en,h.ic,qJm h.idx h.tI a c b,h.inil,⟨qI3.2 (qJm (qI3.1 h.shw.src) h.tS a e b),h.shw.nil,h.shw.wf⟩,h.cap,h.rgt,h.held,h.m1,h.m8,h.rc,h.dec,qJk h.tI a c b,qJk h.tS a e b⟩
theorem Dm.of {a:List T} {d:DV} {b:List Rr} (h:Dk lev a n X w d b):Dm lev a n w d:=
 ⟨h.en,h.ic,h.idx,h.inil,h.shw,h.cap,h.rgt,h.held,h.m1,h.m8,h.rc,h.dec,h.tI,h.tS⟩
structure AW (lev:Nat) (ps:List T) (n:Nat) (w:qy) (B D g:Nat) (d:DV) (rs:List Rr):Prop where
 blk:w.heap[D]? =qw (qm d.cl TDk)
 lo:B<=D
 rp:d.rp=qw ⟨g,0,qx⟩
 own:yj LRr w B TRr (qw ⟨g,0,qx⟩) d.m d.rc rs
 dm:Dm lev ps n w d
theorem AW.below {b:List T} {d:DV} {c:List Rr} (h:AW lev b n w B D g d c) (a:yI w.heap.size w w'):AW lev b n w' B D g d c:=
 ⟨hkeep h.blk a,h.lo,h.rp,h.own.below a (qPq _),h.dm.below a⟩
theorem AW.dk {a:List T} {d:DV} {b:List Rr} (h:AW lev a n w B D g d b) (c:∀r∈b,okR lev a n X r):Dk lev a n X w d b:=
 ⟨h.dm.en,h.dm.ic,h.dm.idx,h.dm.inil,h.dm.shw,h.dm.cap,h.dm.rgt,h.dm.held,by rw[h.rp];exact h.own.rd,h.own.len,h.dm.m1,h.dm.m8,h.dm.rc,c,h.dm.dec,h.dm.tI,h.dm.tS,by rw[h.rp];exact Ty.own h.own⟩
theorem AW.set {l:List T} {d:DV} {m:List Rr} (h:AW lev l n w B D g d m) (r:Nat) (x:r<d.m) (y:Rr):
  (storeVar TRr ⟨g,r*7,qx⟩ (.agg (LRr.cl y).toArray)).run yG w= .ok () (w.setCells g (r*7) (LRr.cl y))/\AW lev l n (w.setCells g (r*7) (LRr.cl y)) B D g d (m.set r y)/\yI B w (w.setCells g (r*7) (LRr.cl y))/\(w.setCells g (r*7) (LRr.cl y)).heap.size=w.heap.size:=by
 obtain⟨p,q⟩:=Kit.Own'.set (P:=yG) h.own zf r x y;obtain⟨o,f,j⟩:=Ty.own h.own g 0 rfl;have a:∀k,k≠g->(w.setCells g (r*7) (LRr.cl y)).heap[k]? =w.heap[k]? :=fun k t=>xB _ w g _ k t;have b:D≠g:=fun e=>by
  have i:=h.blk;rw[e]at i;have s:qw (Obj.cells d.cl TDk (0,0))=qw (Obj.cells o TRr f):=i.symm.trans j;exact absurd (qRf (qPv s)).2.1 z8
 have c:B<=g:=h.own.block g rfl;exact⟨p,⟨(a D b).trans h.blk,h.lo,h.rp,q,h.dm.far j z8 z8 a⟩,yt _ g _ (yN _ w) c,xC _ w g _⟩
theorem qJg (h:w.heap[B]? =qw (qm #[u,v] TAt)):(loadVar TPd ⟨B,0,qx⟩).run yG w= .ok u w:=yh (by simp[yM,h]) zf zf
theorem qOy (h:w.heap[B]? =qw (qm #[u,v] TAt)):(loadVar 3 ⟨B,1,qx⟩).run yG w= .ok v w:=yh (by simp[yM,h]) zf zf
theorem qKf (h:w.heap[B]? =qw (qm #[u,v] TAt)):(loadVar TAt ⟨B,0,qx⟩).run yG w= .ok (.agg #[u,v]) w:=by
 simp[loadVar,go_sem,yM,h]
theorem qI6 (lev n:Nat) (I:List T) (B D g:Nat) (d:DV) (K:List Rr) (r:Nat) (G:r<d.m) (w:qy) (h:AW lev I n w B D g d K):
  yC yG 254 #[.agg #[qY (qw ⟨D,0,qx⟩),qV qj (r:Int)]] w fun e w'=>e=qp (qY (qw ⟨g,r*7,qx⟩))/\yI w.heap.size w w':=by
 obtain⟨E,l⟩:=zB w.heap.size;obtain⟨W,i⟩:=zB (w.alloc (qm #[qY (qw ⟨D,0,qx⟩),qV qj (r:Int)] TAt));have o:yI w.heap.size w W:=by rw[<-i];exact(yN _ _).alloc (qPq _) _
 have j:W.drew.heap[E]? =qw (qm #[qY (qw ⟨D,0,qx⟩),qV qj (r:Int)] TAt):=by rw[<-i,<-l];exact zAh w _
 have hd:=(h.below o.drew).blk;have H:=h.dm.m8;have f:=h.dm.rc;have b:=h.rp;obtain⟨a,M,N,L,sh,O,P,rp,m,p,dec⟩:=d;simp only at G H f b;subst b;unfold DV.cl at hd;obtain⟨L0,z⟩:=yQ (qJg j) (qOy j);have F:=yP ((loadVar qKl ⟨D,5,qx⟩).run yG W.drew= .ok (qX (qw ⟨g,0,qx⟩) m p) W.drew) (yh (qH7 hd).2.2.2.2.2.1 zf zf);obtain⟨HB,s,q⟩:=yR o i l;clear h o i l j hd;go_enter func254,ntmps254;go_wp2;rw[q.out,show w.alloc (qm #[qY (qw ⟨D,0,qx⟩),qV qj (r:Int)] TAt)=W from s.out];refine zS [] (fun _=>True) [0,1,2,4,8,0,32,80,255] 9<|zp [0,1,2,3,4,5,6,7,8]<|zk 3 (zP E 0)<|zt 4 (zP D 0) (zl 252 3 (L0.out))<|zk 5 (zP D 0)<|zk 6 (zP D 5)<|zt 7 (qX (qw ⟨g,0,qx⟩) m p) (zl 37 6 (F.out))<|zk 8 (zP E 1)<|zt 9 (zI r) (zl 3 8 (z.out))<|zt 10 (qY (qw ⟨g,r*7,qx⟩)) (Kit.zAw (t:=37) (x:=(.tmp 7)) (y:=(.tmp 9)) (g:=g) (n:=m) (c:=p) (k:=r) (sz:=7) rfl zf zf za underlying37 (fun _=>sizeOf243 _) _)<|zk 2 (qY (qw ⟨g,r*7,qx⟩))<|zn<|zE<| ?_
 simp only[zP,zI,Act.put,qPz,qPy,qP0];go_wp2;go_ret;exact⟨rfl,HB.out.drew⟩
theorem st5 {a b c d e a' b' c' d' e':qz} (h:w.heap[B]? =qw (qm #[a,b,c,d,e] TEn)) (l:∀z∈[a',b',c',d',e'],z.oneCell'=yD):
  ∃w',(storeVar TEn ⟨B,0,qx⟩ (.agg #[a',b',c',d',e'])).run yG w= .ok () w'/\w'.heap[B]? =qw (qm #[a',b',c',d',e'] TEn)/\(∀D,D<=B->yI D w w')/\w'.heap.size=w.heap.size/\(∀k,k≠B->w'.heap[k]? =w.heap[k]?):=by
 obtain⟨c0,c1,c2,c3,c4⟩:=cells5 h;have f:=qSm (P:=yG) w B 0 TEn #[a',b',c',d',e'] (fun j o=>by
  have q:j<5:=o;refine⟨?_,qH9 h _⟩;obtain rfl|rfl|rfl|rfl|rfl:j=0\/j=1\/j=2\/j=3\/j=4:=za
  ·rw[show 0+0=0 from rfl,c0];rfl
  ·rw[show 0+1=1 from rfl,c1];rfl
  ·rw[show 0+2=2 from rfl,c2];rfl
  ·rw[show 0+3=3 from rfl,c3];rfl
  ·rw[show 0+4=4 from rfl,c4];rfl) zf (by simpa using l)
 have i:=Kit.zDl [a',b',c',d',e'] w B 0 _ _ _ h;rw[show xI #[a,b,c,d,e] 0 [a',b',c',d',e']= #[a',b',c',d',e']by simp[xI]]at i;exact⟨w.setCells B 0 [a',b',c',d',e'],f,i,fun D m=>yt _ B 0 (yN _ w) m,xC _ w B 0,fun k p=>xB _ w B 0 k p⟩
theorem qNw {o:Nat} {x:En} (c0:w.cell? ⟨B,o,qx⟩=qw (qV qj (x.i:Int))) (c1:w.cell? ⟨B,o+1,qx⟩=qw (qV qj (x.r:Int))) (c2:w.cell? ⟨B,o+2,qx⟩=qw (qV qj (x.f:Int))) (c3:w.cell? ⟨B,o+3,qx⟩=qw (qV qj (x.l:Int))) (c4:w.cell? ⟨B,o+4,qx⟩=qw (zAx x.u)):
  (loadVar TEn ⟨B,o,qx⟩).run yG w= .ok (enV x) w:=Kit.zHe (L:=LEn) (x:=x) (fun i hi=>by
  have h:i=0\/i=1\/i=2\/i=3\/i=4:=by have:i<5:=hi;omega
  rcases h with rfl|rfl|rfl|rfl|rfl
  ·exact c0
  ·exact c1
  ·exact c2
  ·exact c3
  ·exact c4) (fun _=>sizeOf107 _) (fun _=>isAgg107 _)
abbrev ZE:Array qz:= #[qV qj 0,qV qj 0,qV qj 0,qV qj 0,qV .u32 0]
structure EW (lev:Nat) (ps:List T) (n:Nat) (w:qy) (B D g E:Nat) (d:DV) (rs:List Rr) (r:Nat):Prop where
 aw:AW lev ps n w B D g d rs
 bx:w.heap[E]? =qw (qm #[qY (qw ⟨D,0,qx⟩),qV qj (r:Int)] TAt)
 zz:w.heap[E+1]? =qw (qm ZE TEn)
theorem EW.below {b:List T} {E r:Nat} {d:DV} {c:List Rr} (h:EW lev b n w B D g E d c r) (a:yI w.heap.size w w'):EW lev b n w' B D g E d c r:=⟨h.aw.below a,hkeep h.bx a,hkeep h.zz a⟩
theorem qKv (lev n:Nat) (i:List T) (B D g:Nat) (d:DV) (m:List Rr) (r:Nat) (x:Rr) (hx:m[r]? =qw x) (hr:r<d.m) (hb:x.b<n) (a0:n<=1000) (w:qy) (h:AW lev i n w B D g d m):
  yC yG 256 #[.agg #[qY (qw ⟨D,0,qx⟩),qV qj (r:Int)]] w fun e w'=>e=qp (enV (qIi lev i x.b))/\yI w.heap.size w w':=by
 obtain⟨E,hE⟩:=zB w.heap.size;obtain⟨W,Z⟩:=zB ((w.alloc (qm #[qY (qw ⟨D,0,qx⟩),qV qj (r:Int)] TAt)).alloc (qm ZE TEn));have o:yI w.heap.size w W:=by rw[<-Z];exact((yN _ _).alloc (qPq _) _).alloc (by rw[zA];omega) _
 have hz:W.heap.size=E+2:=by rw[<-Z,zA,zA,hE]
 have E0:EW lev i n W.drew B D g E d m r:=⟨h.below o.drew,by show W.heap[E]? =_;rw[<-Z,<-hE];exact(Lib.alloc_old _ _ _ (by rw[zA];omega)).trans (zAh w _),by show W.heap[E+1]? =_;rw[<-Z,<-hE,<-zA w (qm #[qY (qw ⟨D,0,qx⟩),qV qj (r:Int)] TAt)];exact zAh _ _⟩;obtain⟨Y,oi,a,_⟩:=rdE h.dm.idx x.b _ (qIx lev i n x.b hb);obtain⟨q,F⟩:=zB (qIi lev i x.b);have HS:=zH (fun w' hw=>qI6 lev n i B D g d m r hr w' hw);have R:=h.dm.ic;have LA:=yP (∀f,EW lev i n f B D g E d m r->(loadVar TAt ⟨E,0,qx⟩).run yG f= .ok (.agg #[qY (qw ⟨D,0,qx⟩),qV qj (r:Int)]) f) fun f l=>qKf l.bx;have LP:=yP (∀f,EW lev i n f B D g E d m r->(loadVar TPd ⟨E,0,qx⟩).run yG f= .ok (qY (qw ⟨D,0,qx⟩)) f) fun f l=>qJg l.bx;have LI:=yP (∀f,EW lev i n f B D g E d m r->(loadVar TEs ⟨D,1,qx⟩).run yG f= .ok (qX (qw ⟨Y,oi,qx⟩) n d.ic) f) (fun f l=>by
  have h8:=l.aw.blk;unfold DV.cl at h8;rw[a,l.aw.dm.en]at h8;exact yh (qH7 h8).2.1 zf zf)
 have LB:=yP (∀f,EW lev i n f B D g E d m r->(loadVar 3 ⟨g,r*7+3,qx⟩).run yG f= .ok (qV qj (x.b:Int)) f) (fun f l=>by
  obtain⟨b0,o0,V,hc⟩:=l.aw.own.rd r x hx;have V:=qPv V;have h1:g=b0:=qPs Addr.block V;have h2:0=o0:=qPs Addr.off V;have h3:=hc 3 z8;rw[<-h1,<-h2]at h3;rw[qQc]at h3;exact yh h3 zf zf)
 have LE:=yP (∀f,EW lev i n f B D g E d m r->(loadVar TEn ⟨Y,oi+x.b*5,qx⟩).run yG f= .ok (enV q) f) (fun f l=>by
  obtain⟨g2,o2,M,c0,c1,c2,c3,c4⟩:=rdE l.aw.dm.idx x.b _ (qIx lev i n x.b hb);rw[a]at M;have V:=qPv M;have h1:Y=g2:=qPs Addr.block V;have h2:oi=o2:=qPs Addr.off V;rw[F,<-h1,<-h2]at c0 c1 c2 c3 c4;exact qNw c0 c1 c2 c3 c4)
 obtain⟨H0,HB,HW,HE,HZ⟩:=yT E0 o.drew Z hE hz;rw[F];obtain⟨ic,H⟩:=zB d.ic;rw[H]at LI R;obtain⟨b,N⟩:=zB x.b;rw[N]at LB LE hb;clear h o Z hE hz E0 a F hx H N;go_enter func256,ntmps256;go_wp2;rw[HE.out,show(w.alloc (qm #[qY (qw ⟨D,0,qx⟩),qV qj (r:Int)] TAt)).alloc (qm #[qV qj 0,qV qj 0,qV qj 0,qV qj 0,qV .u32 0] TEn)=W from HW.out];refine zS [12] (fun f=>EW lev i n f B D g E d m r) [0,1,2,4,8,0,32,64,128,256,528,1024,4095] 13<|zu 0 3 (zP E 0)<|zy 1 4 (zP D 0) (fun w z=>zl 252 3 (LP.out w z)) H0.out<|zu 2 5 (zP D 0)<|zu 3 6 (zP D 1)<|zy 4 7 (qX (qw ⟨Y,oi,qx⟩) n ic) (fun w z=>zl 30 6 (LI.out w z)) H0.out<|zp [5]<|zt 8 (.agg #[qY (qw ⟨D,0,qx⟩),qV qj (r:Int)]) ((fun w z=>zl 254 1 (LA.out w z)) _ (H0.out))<|zn<|zx 6 9 254 #[.agg #[qY (qw ⟨D,0,qx⟩),qV qj (r:Int)]] (HS.out _ H0.out.aw)<| ?_
 rintro e w5 ⟨rfl,s⟩;have H5:=zH (H0.out.below s);obtain⟨w6,G,K,j,P,I⟩:=st5 (a':=qV qj (q.i:Int)) (b':=qV qj (q.r:Int)) (c':=qV qj (q.f:Int)) (d':=qV qj (q.l:Int)) (e':=zAx q.u) H5.out.zz (by simp[Value.oneCell',zAx]);refine⟨_,rfl,.inr (.inr H5.out),?_⟩;refine zp [7,8,9,10,11]<|zk 10 (qY (qw ⟨g,r*7,qx⟩))<|zk 11 (qY (qw ⟨g,r*7+3,qx⟩))<|zt 12 (zI b) ((fun w z=>zl 3 11 (LB.out w z)) _ (H5.out))<|zt 13 (qY (qw ⟨Y,oi+b*5,qx⟩)) (Kit.qCt (t:=30) (x:=(.tmp 7)) (y:=(.tmp 12)) (g:=Y) (off:=oi) (n:=n) (c:=ic) (k:=b) (sz:=5) rfl zf zf za underlying30 (fun _=>sizeOf107 _) _)<|zt 14 (enV q) ((fun w z=>zl 107 13 (LE.out w z)) _ (H5.out))<|zn<|zw 12 qx (zr 107 2 14 (G)) (.inr (.inl zf))<|zE<| ?_
 simp only[zP,zI,Act.put,qPz,qPy,qP0];have O:(loadVar TEn ⟨E+1,0,qx⟩).run yG w6= .ok (enV q) w6:=by
  obtain⟨c0,c1,c2,c3,c4⟩:=cells5 K;exact qNw c0 c1 c2 c3 c4
 have L:yI w.heap.size w w6:=(HB.out.trans (s.mono HB.out.size)).trans (j w.heap.size (by rw[HE.out];omega));obtain⟨HL,S⟩:=yQ O L;clear O L s G K j P I;go_wp2;refine qP5 (v:=enV q) ?_ rfl ?_
 ·exact Cache.qIw (p:=2) rfl _ _ _ ⟨E+1,0,qx⟩ _ rfl HL.out
 ·exact⟨rfl,S.out⟩
end Sk
end Go.Proofs.YtppnakkaljbmbaaGreatDoor
