/- Steps of a proof; no condition beyond what each states. -/
import Derived.Test.YtppnakkaljbmbaaGreatDoorZY00
import Derived.Test.YtppnakkaljbmbaaGreatDoorZY07
set_option linter.unusedVariables false
set_option linter.unusedSimpArgs false
set_option maxRecDepth 100000
set_option maxHeartbeats 8000000
open List renaming length->kN
open Go.Proofs.YtppnakkaljbmbaaGreatDoor.Kit renaming zAg->yw,Own'->yx,below_setCells->xA,zAo->xH,zHa->xI,zDa->xK,size_setCells->xL,spl->xO,Rd->xP,zDl->xS,Lay->xV
open Go.Proofs.YtppnakkaljbmbaaGreatDoor.Rle renaming bs->xB,zCh->x9,zBk->kF
open Go.Proofs.YtppnakkaljbmbaaGreatDoor.Crc renaming sum->xD,U->xJ
open Go.Proofs.YtppnakkaljbmbaaGreatDoor.Cache renaming Sh->xE,Right->xX,take->xq,Has->xu,SI->kC,ShW->kH,keep->kJ,Sx->kL
open Go.RowKit
open Go.Proofs.Tryz
open Go.Value renaming int->qX,string->qY,slice->qZ,pointer->qc,tuple->qg,bool->qh
open Go.IntKind renaming i64->qm
open Go.Obj renaming cells->qp
open Go.Ending renaming returned->qx
open Or renaming inr->qy,inl->qz
open Option renaming some->yA,none->yB
open Go renaming World->yC,Value->yD,TypeId->yE,Addr->yF,Calls->yG,undef->yN
open Bool renaming true->yH,false->yI
open Decidable renaming decide->yJ
open Go.Proofs.Tryz renaming prog->yK
open Go.RowKit renaming Hid->yL,Below->yM
open Go.World renaming cell?->yQ
open Go.RowKit.Below renaming refl->yR
open And renaming intro->yS
namespace Go.Proofs.YtppnakkaljbmbaaGreatDoor
namespace Sk
open Hf Bt Zr Ch Sq St Bk Sm Ix2
open Front (ival)
variable {w w':yC} {a:Option yF} {e t:yE} {n R lev X:Nat} {cs:Array yD} {f:Nat×Nat}
def okR (lev:Nat) (b:List T) (n X:Nat) (r:Rr):Prop:=r=free\/∃j,Wk lev b n X r j
def Ty (w:yC) (a:Option yF) (e:yE):Prop:=∀g o,a=yA ⟨g,o,yB⟩->∃cs f,w.heap[g]? =yA (qp cs e f)
theorem Ty.below (h:Ty w a e) (c:yM w w w'):Ty w' a e:=fun g o b=>by
 obtain⟨cs,f,d⟩:=h g o b;exact⟨cs,f,hkeep d c⟩
theorem Ty.own {α:Type} {L:xV α} {B:Nat} {c:Nat} {xs:List α} (h:yx L w B e a n c xs):Ty w a e:=fun g o i=>by
 obtain⟨_,d⟩:=h;rcases d with⟨d,_⟩|⟨g',k,l,hv,_,j,_⟩
 .injection d with d _ _
  rw[i]at d;cases d
 .injection hv with hv _ _
  rw[i]at hv;have hv:=qPv hv;have b:g=g':=qPs Addr.block hv;rw[b];exact⟨_,_,j⟩
theorem qJm {α:Type} {L:xV α} {xs:List α} (h:xP L w a xs) (u:Ty w a e) (p:w.heap[R]? =yA (qp cs t f)) (hne:e≠t) (s:∀k,k≠R->w'.heap[k]? =w.heap[k]?):xP L w' a xs:=by
 intro j x y;obtain⟨b,c,l,q⟩:=h j x y;obtain⟨g,f',m⟩:=u b c l;have d:b≠R:=fun r=>by
  rw[r]at m;have o:yA (Obj.cells g e f')=yA (Obj.cells cs t f):=m.symm.trans p;exact hne (qQ6 (qPv o)).2.1
 refine⟨b,c,l,fun i hi=> ?_⟩;rw[<-q i hi];exact qRg (w:=w) (w':=w') (a:=⟨b,c+j*L.k+i,yB⟩) (s b d)
theorem qJk (m:Ty w a e) (h:w.heap[R]? =yA (qp cs t f)) (hne:e≠t) (l:∀k,k≠R->w'.heap[k]? =w.heap[k]?):Ty w' a e:=fun g o i=>by
 obtain⟨b,f',c⟩:=m g o i;refine⟨b,f',(l g (fun j=> ?_)).trans c⟩;rw[j]at c;have d:yA (Obj.cells b e f')=yA (Obj.cells cs t f):=c.symm.trans h;exact hne (qQ6 (qPv d)).2.1
structure Dk (lev:Nat) (ps:List T) (n X:Nat) (w:yC) (d:DV) (rs:List Rr):Prop where
 en:d.n=n
 ic:n<=d.ic
 idx:xP LEn w d.ip (ents lev ps n)
 inil:qIz d.ip n d.ic
 shw:kH w d.sh d.sa d.sk
 cap:kN d.sh.held<=d.sk
 rgt:xX d.sh
 held:∀h∈d.sh.held,∃k:Nat,h.blk=(k:Int)/\k<n/\h.txt=xB (ps.getD k [])
 rdr:xP LRr w d.rp rs
 rm:kN rs=d.m
 m1:1<=d.m
 m8:d.m<=8
 rc:d.m<=d.rc
 okr:∀r∈rs,okR lev ps n X r
 dec:d.dec<=1099511627776
 tI:Ty w d.ip TEn
 tS:Ty w d.sa THd
 tR:Ty w d.rp TRr
theorem Dk.below {c:List T} {d:DV} {g:List Rr} (h:Dk lev c n X w d g) (b:yM w w w'):Dk lev c n X w' d g:=
 ⟨h.en,h.ic,h.idx.below b rfl,h.inil,h.shw.below b rfl,h.cap,h.rgt,h.held,h.rdr.below b rfl,h.rm,h.m1,h.m8,h.rc,h.okr,h.dec,h.tI.below b,h.tS.below b,h.tR.below b⟩
theorem Dk.far {l:List T} {d:DV} {m:List Rr} (h:Dk lev l n X w d m) (b:w.heap[R]? =yA (qp cs t f)) (g:TEn≠t) (i:THd≠t) (j:TRr≠t) (c:∀k,k≠R->w'.heap[k]? =w.heap[k]?):Dk lev l n X w' d m:=
 ⟨h.en,h.ic,qJm h.idx h.tI b g c,h.inil,⟨qI3.2 (qJm (qI3.1 h.shw.src) h.tS b i c),h.shw.nil,h.shw.wf⟩,h.cap,h.rgt,h.held,qJm h.rdr h.tR b j c,h.rm,h.m1,h.m8,h.rc,h.okr,h.dec,qJk h.tI b g c,qJk h.tS b i c,qJk h.tR b j c⟩
theorem zJw (lev n X:Nat) (b:List T) (P:Ps lev b n) (g:kN b.flatten=X) (d:DV) (i:d.n=n) (c:n<=d.ic) (r:Rr) (h:okR lev b n X r) (w:yC) (hi:xP LEn w d.ip (ents lev b n)):
  yG yK 250 #[d.v,.agg (LRr.cl r).toArray] w fun e w'=>e=qx (qh yH)/\yM w w w':=by
 rcases h with rfl|⟨j,h⟩
 .exact qNe d w
 .exact qNd lev n X b P g d i c r j h w hi
theorem qL3 (lev n X:Nat) (j:List T) (P:Ps lev j n) (s:kN j.flatten=X) (d:DV) (u:d.n=n) (p:n<=d.ic) (r:Rr) (h:okR lev j n X r) (w:yC) (hi:xP LEn w d.ip (ents lev j n)) (D:Nat) (hd:w.heap[D]? =yA (qp d.cl TDk)):
  yG yK 249 #[.agg (LRr.cl r).toArray,qc (yA ⟨D,0,yB⟩)] w fun e w'=>e=qx (qh yI)/\yM w w w':=by
 obtain⟨HM,k⟩:=yU (fun w' H=>zJw lev n X j P s d u p r h w' (hi.below (w':=w') H rfl)) hd;obtain⟨a,ip,n',ic,⟨Y,V,W⟩,sa,sk,rp,m,rc,dec⟩:=d;obtain⟨st,o,q,b,l,f,c⟩:=r;rw[show(LRr.cl (⟨st,o,q,b,l,f,c⟩:Rr)).toArray= #[qX qm (st:Int),qX qm (o:Int),qX qm (q:Int),qX qm (b:Int),qX qm (l:Int),qY f,qY c]from rfl]at HM⊢;unfold DV.v DV.cl at HM;unfold DV.cl at k;obtain⟨x,y,y2,y3,z,B,F⟩:=qH7 k.out;have Z:D<w.heap.size:=zAd k.out;clear P s u p h hi hd;have K:=fun i=>qIt (o:=i) x;have L:=fun i=>qIt (o:=i) y;have z2:=fun i=>qIt (o:=i) y2;have M:=fun i=>qIt (o:=i) y3;have N:=fun i=>qIt (o:=i) z;have O:=fun i=>qIt (o:=i) B;have S:=fun i=>qIt (o:=i) F;clear x y y2 y3 z B F;go_enter func249,ntmps249;go_wp2_with fail;clear K L z2 M N O S;(with_reducible refine(HM.out _ ((yR _ _).alloc (qPq _) _)).mono ?_);rintro e I ⟨rfl,g⟩;have G:=yT (yM w w I) (((yR w.heap.size w).alloc (qPq _) _).trans (g.mono (by rw[zA];omega)));clear g HM;go_wp2;go_ret;exact⟨rfl,G.out⟩
theorem zOw (lev n X:Nat) (G:List T) (P:Ps lev G n) (K:kN G.flatten=X) (d:DV) (z:List Rr) (w:yC) (h:Dk lev G n X w d z) (D:Nat) (hd:w.heap[D]? =yA (qp d.cl TDk)):
  yG yK 287 #[qZ d.rp d.m d.rc,.func (.func 249) #[] #[qc (yA ⟨D,0,yB⟩)]] w fun e w'=>e=qx (qX qm (-1))/\yM w w w':=by
 obtain⟨O,HK⟩:=yU (fun(k:Nat) (r:Rr) (F:z[k]? =yA r) (w':yC) (M:yM w w w')=>qL3 lev n X G P K d h.en h.ic r (h.okr r (qSs F)) w' (h.idx.below M rfl) D (hkeep hd M)) h;have S:=h.m8;have s:=h.rc;obtain⟨m,L⟩:=zB d.m;obtain⟨rc,u⟩:=zB d.rc;obtain⟨rp,p⟩:=zB d.rp;obtain⟨RD,I⟩:=yU h.rdr h.rm;rw[L]at S s I⊢;rw[u]at s⊢;rw[p]at RD⊢;clear P K h hd L u p;go_enter func287,ntmps287;go_wp2;go_loopw [8] (fun iv wr=>∃k:Nat,k<=m/\iv=qX qm k/\yL (yM w w wr)) (fun iv _=>m-(intOf iv).toNat)
 case atStart=>exact⟨0,qQl _,rfl,zH (yR _ _)⟩
 case round=>
  obtain⟨k,hk,rfl,c⟩:=hrel;by_cases B:k<m
  .have t:k<kN z:=by rw[I.out];exact B
   obtain⟨r,F⟩:=zB (z[k]);have f:z[k]? =yA r:=by rw[qPu t,F]
   have H:=zH (O.out k r f wr c.out);obtain⟨g,a,rfl,y⟩:=RD.out.below c.out rfl k r f;obtain⟨st,o,q,b,l,j,i⟩:=r;have V:wr.cell? ⟨g,a+k*7,yB⟩=yA (qX qm (st:Int)):=y 0 qW;have W:wr.cell? ⟨g,a+k*7+1,yB⟩=yA (qX qm (o:Int)):=y 1 qW;have Y:wr.cell? ⟨g,a+k*7+2,yB⟩=yA (qX qm (q:Int)):=y 2 qW;have Z:wr.cell? ⟨g,a+k*7+3,yB⟩=yA (qX qm (b:Int)):=y 3 qW;have x4:wr.cell? ⟨g,a+k*7+4,yB⟩=yA (qX qm (l:Int)):=y 4 qW;have x5:wr.cell? ⟨g,a+k*7+5,yB⟩=yA (qY j):=y 5 qW;have x6:wr.cell? ⟨g,a+k*7+6,yB⟩=yA (qY i):=y 6 qW;have BW:=zH c.out;rw[show(LRr.cl (⟨st,o,q,b,l,j,i⟩:Rr)).toArray= #[qX qm (st:Int),qX qm (o:Int),qX qm (q:Int),qX qm (b:Int),qX qm (l:Int),qY j,qY i]from rfl]at H;clear y c F f t;go_wp2_with fail;clear V W Y Z x4 x5 x6;(with_reducible refine H.out.mono ?_);rintro e w1 ⟨rfl,x⟩;have N:=zH (BW.out.trans (x.mono BW.out.size));clear x H;go_wp2;go_roundw
   case rel=>exact⟨k+1,za,by go_num,N⟩
   case measure=>exact z8
  .obtain rfl:k=m:=za
   have BW:=zH c.out;clear c;go_wp2;go_ret;exact⟨rfl,BW.out⟩
theorem qLd (lev n X:Nat) (b:List T) (P:Ps lev b n) (g:kN b.flatten=X) (d:DV) (i:List Rr) (w:yC) (h:Dk lev b n X w d i) (D:Nat) (hd:w.heap[D]? =yA (qp d.cl TDk)):
  yG yK 248 #[qZ d.rp d.m d.rc,.func (.func 249) #[] #[qc (yA ⟨D,0,yB⟩)]] w fun e w'=>e=qx (qh yI)/\yM w w w':=by
 have c:=zH (zOw lev n X b P g d i w h D hd);clear P g h hd;go_enter func248,ntmps248;go_wp2_with fail;(with_reducible refine c.out.mono ?_);rintro e k ⟨rfl,a⟩;have j:=zH a;clear a c;go_wp2;go_ret;exact⟨rfl,j.out⟩
end Sk
namespace Sk
open Hf Bt Zr Ch St Tn Bk Sm Ix2
open Front (ival)
theorem qN3 {P:Program} {ρ:Operand->yD} {o:Oper} {t u:yE} {x y:Operand} {m n:Int} {b:Bool} (c:o.op= .binOp .neq t x y u) (d:ρ x=qX qm m) (e:ρ y=qX qm n) (a:(m !=n)=b) (w:yC):(execOp ρ o).run P w= .ok (.value (qh b)) w:=by
 unfold execOp;simp[c,d,e,go_sem,a]
theorem zGf (a9 n X:Nat) (ps:List T) (P:Ps a9 ps n) (hX:kN ps.flatten=X) (d:DV) (rs:List Rr) (w:yC) (h:Dk a9 ps n X w d rs):
  yG yK 191 #[d.v] w fun e w'=>e=qx (qh yH)/\yM w w w':=by
 obtain⟨E,hE⟩:=zB w.heap.size;obtain⟨W,hW⟩:=zB (w.alloc (qp d.cl TDk));have hb:yM w w W:=by rw[<-hW];exact(yR _ _).alloc (qPq _) _
 have hd:W.heap[E]? =yA (qp d.cl TDk):=by rw[<-hW,<-hE];exact zAh w _
 obtain⟨G,i⟩:=yU (Ix2.zGf a9 n ps P d.ip d.ic W (h.idx.below hb rfl) h.ic) (fun w' (hw:yM W W w')=>Cache.zGf d.sh d.sa d.sk w' (by have h1:=h.rgt;unfold xX at h1;unfold maxLen;omega) ((h.shw.src.below hb rfl).below hw rfl));have Y:Cache.right d.sh=yH:=(Cache.zIu d.sh).2 h.rgt;rw[Y]at i;obtain⟨l,HK,z,I,R⟩:=yY (fun w' (hw:yM W W w')=>qLd a9 n X ps P hX d rs w' ((h.below hb).below hw) E (hkeep hd hw)) (h.below hb) hd h.held (h.shw.src.below hb rfl);have S:=h.en;have a6:=h.ic;have m1:=h.m1;have m8:=h.m8;have a2:=h.dec;have o:=h.cap;have u:kN d.sh.held<=64:=by have h1:=h.rgt;unfold xX at h1;omega
 have HI:=zH (h.idx.below hb rfl);have hn:=P.many;obtain⟨HB,HW,HE⟩:=yV hb hW hE;obtain⟨a,ip,n',ic,⟨r,j,aa⟩,sa,sk,rp,m,rc,dec⟩:=d;simp only at S a6 m1 m8 a2 o u;subst S;unfold DV.v;unfold DV.cl at z HW⊢;simp only at z HW⊢;obtain⟨H,hH⟩:=zB (kN aa);have a3:=zH hH;unfold Cache.zC7 at i;simp only at G i l I R HI;rw[hH]at z HW i o u⊢;clear h hb hd Y hE hW P hX hH;obtain⟨y0,y1,y2,y3,y4,y5,y6⟩:=qH7 z.out;go_enter func191,ntmps191;go_wp2_with fail;rw[HE.out,show w.alloc (qp #[qY a,qZ ip n' ic,qX qm r,qX qm j,qZ sa H sk,qZ rp m rc,dec] TDk)=W from HW.out];clear y0 y1 y2 y3 y4 y5 y6;(with_reducible refine G.out.mono ?_);rintro e w1 ⟨rfl,F⟩;have W1:=zH F;obtain⟨y0,y1,y2,y3,y4,y5,y6⟩:=qH7 (hkeep z.out F);clear G F;go_wp2_with fail;clear y0 y1 y2 y3 y4 y5 y6;(with_reducible refine(i.out _ W1.out).mono ?_);rintro e w2 ⟨rfl,a0⟩;have W2:=zH (W1.out.trans (a0.mono W1.out.size));obtain⟨y0,y1,y2,y3,y4,y5,y6⟩:=qH7 (hkeep z.out W2.out);clear i a0 W1;go_wp2;clear y0 y1 y2 y3 y4 y5 y6;go_loopw [41] (fun iv wr=>∃k:Nat,k<=H/\iv=qX qm k/\yL (yM W W wr)) (fun iv _=>H-(intOf iv).toNat)
 case atStart=>exact⟨0,qQl _,rfl,W2⟩
 case round=>
  obtain⟨k,hk,rfl,f⟩:=hrel;by_cases a5:k<H
  .have s:k<kN aa:=by rw[a3.out];exact a5
   obtain⟨x,hx⟩:=zB (aa[k]);obtain⟨q,O,a8,p⟩:=I.out x (by rw[<-hx];exact qP9 s);obtain⟨g,off,rfl,x0,x1,x2⟩:=(R.out.below f.out rfl) k x (by rw[qPu s,hx]);obtain⟨g2,o2,rfl,e0,e1,e2,e3,e4⟩:=rdE (HI.out.below f.out rfl) q _ (qIx a9 ps n' q a8);obtain⟨ab,st,b⟩:=x;simp only at O p x0 x1 x2;subst O;have K:(b.size:Int)=(kN (ps.getD q []):Int):=by rw[p,x9]
   have L:wr.cell? ⟨g2,o2+q*5+3,yB⟩=yA (qX qm (b.size:Int)):=by rw[K];exact e3
   obtain⟨V,hV⟩:=zB (wr.alloc (qp #[q,qX qm st,qY b] THd));obtain⟨Z,hZ⟩:=zB wr.heap.size;have B:V.drew.heap[Z]? =yA (qp #[q,qX qm st,qY b] THd):=by rw[<-hV,<-hZ];exact zAh wr _
   have N:V.drew.heap[E]? =yA (qp #[qY a,qZ (yA ⟨g2,o2,yB⟩) n' ic,qX qm r,qX qm j,qZ (yA ⟨g,off,yB⟩) H sk,qZ rp m rc,dec] TDk):=by
    rw[<-hV];exact(Lib.alloc_old _ _ _ (zAd (hkeep z.out f.out))).trans (hkeep z.out f.out)
   have L0:=yT ((loadVar 3 ⟨Z,0,yB⟩).run yK V.drew= .ok (qX qm (q:Int)) V.drew) (yw (by simp[yQ,B]) zf zf);have L2:=yT ((loadVar 9 ⟨Z,2,yB⟩).run yK V.drew= .ok (qY b) V.drew) (yw (by simp[yQ,B]) zf zf);have LD:=yT ((loadVar TEs ⟨E,1,yB⟩).run yK V.drew= .ok (qZ (yA ⟨g2,o2,yB⟩) n' ic) V.drew) (yw (by simp[yQ,N]) zf zf);have LE:=yT ((loadVar 3 ⟨g2,o2+q*5+3,yB⟩).run yK V.drew= .ok (qX qm (b.size:Int)) V.drew) (yw (by show V.cell? _=_;rw[<-hV];exact qIt L) zf zf);have BV:=yT (yM W W V.drew) (by rw[<-hV];exact(f.out.alloc f.out.size _).drew);have M:decide ((n':Int)<=(q:Int))=yI:=zq
   have hne:((b.size:Int)!=(b.size:Int))=yI:=by simp
   obtain⟨a7,a4,HV,HZ⟩:=yX M hne hV hZ;clear hx p e0 e1 e2 e3 e4 K L B N M hne f hV hZ s;go_wp2;clear x0 x1 x2;rw[show wr.alloc (qp #[q,qX qm st,qY b] THd)=V from HV.out,HZ.out];refine zS [] (fun _=>True) [0,1,0,4,8,18,32,64,192,320,64,1088,64,4160,10304,16448,32832,66112,131136] 19<|zp [0,1,2,3,4,5,6,7,8,9,10,11,12,13,14,15,16,17,18]<|zk 45 (zP Z 0)<|zt 46 (zI q) (zl 3 45 (L0.out))<|zk 47 (zP E 1)<|zt 48 (qZ (yA ⟨g2,o2,yB⟩) n' ic) (zl 30 47 (LD.out))<|zk 49 (zI n')<|zt 50 (qh yI) (qMj (x:= .tmp 46) (y:= .tmp 49) rfl zf zf a7.out _)<|zk 51 (qh yI)<|zk 52 (zP Z 2)<|zt 53 (qY b) (zl 9 52 (L2.out))<|zk 54 (qX qm (b.size:Int))<|zk 55 (zP E 1)<|zt 56 (qZ (yA ⟨g2,o2,yB⟩) n' ic) (zl 30 55 (LD.out))<|zk 57 (zP Z 0)<|zt 58 (zI q) (zl 3 57 (L0.out))<|zt 59 (qc (yA ⟨g2,o2+q*5,yB⟩)) (Kit.qCt (t:=30) (x:=(.tmp 56)) (y:=(.tmp 58)) (g:=g2) (off:=o2) (n:=n') (c:=ic) (k:=q) (sz:=5) rfl zf zf za underlying30 (fun _=>sizeOf107 _) _)<|zk 60 (qc (yA ⟨g2,o2+q*5+3,yB⟩))<|zt 61 (qX qm (b.size:Int)) (zl 3 60 (LE.out))<|zt 62 (qh yI) (qN3 (x:= .tmp 54) (y:= .tmp 61) rfl zf zf a4.out _)<|zk 63 (qh yI)<|zn<|zE<| ?_
   simp only[zP,zI,Act.put,qPx,qPw,qPy];go_wp2;go_roundw
   case rel=>exact⟨k+1,za,by go_num,BV⟩
   case measure=>exact z8
  .obtain rfl:k=H:=za
   have BW:=zH f.out;obtain⟨y0,y1,y2,y3,y4,y5,y6⟩:=qH7 (hkeep z.out f.out);clear f;go_wp2_with fail;clear y0 y1 y2 y3 y4 y5 y6;(with_reducible refine(l.out _ BW.out).mono ?_);rintro e w4 ⟨rfl,a1⟩;have B4:=zH (HB.out.trans ((BW.out.trans (a1.mono BW.out.size)).mono HB.out.size));clear a1 l;go_wp2;go_ret;exact⟨rfl,B4.out⟩
end Sk
namespace Sk
open Hf Bt Zr Ch Tn Sm Ix2 Sd
open Front (ival)
variable {w:yC} {B:Nat} {arr:Array yD} {t:yE}
theorem qI0 {i:Nat} {x:yD} (h:w.heap[B]? =yA (qp arr t)):(w.setCell ⟨B,i,yB⟩ x).heap[B]? =yA (qp (arr.setIfInBounds i x) t):=by
 simp[World.setCell,qQt,h]
theorem qH9 (h:w.heap[B]? =yA (qp arr t)) (i:Nat):w.frozen? ⟨B,i,yB⟩=yI:=by simp[World.frozen?,h]
theorem ld7 {a b c d e f g:yD} (h:w.heap[B]? =yA (qp #[a,b,c,d,e,f,g] TDk)):(loadVar TDk ⟨B,0,yB⟩).run yK w= .ok (.agg #[a,b,c,d,e,f,g]) w:=by
 obtain⟨i,j,y2,y3,k,l,m⟩:=qH7 h;simp[loadVar,go_sem,i,j,y2,y3,k,l,m]
theorem qLe (g n X:Nat) (f:List T) (P:Ps g f n) (i:kN f.flatten=X) (d:DV) (p:d.n=n) (k:n<=d.ic) (o m:Nat) (z:o<=100000000) (y:m<=100000000) (w:yC) (hi:xP LEn w d.ip (ents g f n)):
  yG yK 145 #[d.v,o,m] w fun e w'=>e=qx (qX qm (if X<o+m then 8 else 0))/\yM w w w':=by
 have x:X<=10000:=by rw[<-i];exact P.all
 have c:=zH (fun w' (q:yM w w w')=>qJy g n f P d.ip d.ic w' (hi.below q rfl) k i);obtain⟨a,G,H,F,⟨u,r,s⟩,K,L,rp,m',I,dec⟩:=d;simp only at p k c;subst p;unfold DV.v DV.cl;clear P hi i;by_cases l:X<o+m
 .rw[qPr l];go_enter func145,ntmps145;go_wp2_with fail;(with_reducible refine(c.out _ ((yR _ _).alloc (qPq _) _)).mono ?_);rintro e j ⟨rfl,b⟩;have h:=yT (yM w w j) (((yR w.heap.size w).alloc (qPq _) _).trans (b.mono (by rw[zA];omega)));clear b c;go_wp2;go_ret;exact⟨rfl,h.out⟩
 .rw[qPt l];go_enter func145,ntmps145;go_wp2_with fail;(with_reducible refine(c.out _ ((yR _ _).alloc (qPq _) _)).mono ?_);rintro e j ⟨rfl,b⟩;have h:=yT (yM w w j) (((yR w.heap.size w).alloc (qPq _) _).trans (b.mono (by rw[zA];omega)));clear b c;go_wp2;go_ret;exact⟨rfl,h.out⟩
theorem zCk (o n X:Nat) (l:List T) (P:Ps o l n) (u:kN l.flatten=X) (d:DV) (x:List Rr) (r:Nat) (L:r<d.m) (w:yC) (h:Dk o l n X w d x):
  yG yK 141 #[d.v,r] w fun e w'=>e=qx (qX qm 0)/\yM w w w':=by
 obtain⟨E,q⟩:=zB w.heap.size;obtain⟨W,k⟩:=zB (w.alloc (qp d.cl TDk));have s:yM w w W:=by rw[<-k];exact(yR _ _).alloc (qPq _) _
 have j:=yT (W.heap[E]? =yA (qp d.cl TDk)) (by rw[<-k,<-q];exact zAh w _);have b:=zH (zGf o n X l P u d x W (h.below s));have O:=h.m8;obtain⟨HB,p,K⟩:=yV s k q;obtain⟨a,N,R,M,⟨i,f,g⟩,V,Y,rp,m,S,dec⟩:=d;simp only at L O;unfold DV.v at b⊢;unfold DV.cl at j p b⊢;simp only at j p b⊢;clear P u h s k q;obtain⟨y,z,y2,y3,F,G,H⟩:=qH7 j.out;go_enter func141,ntmps141;go_wp2_with fail;rw[show w.alloc (qp #[qY a,qZ N R M,qX qm i,qX qm f,qZ V (kN g) Y,qZ rp m S,dec] TDk)=W from p.out];clear y z y2 y3 F G H;(with_reducible refine b.out.mono ?_);rintro e Z ⟨rfl,c⟩;have I:=zH (HB.out.trans (c.mono HB.out.size));obtain⟨y,z,y2,y3,F,G,H⟩:=qH7 (hkeep j.out c);clear b c;rw[K.out];go_wp2;go_ret;exact⟨rfl,I.out⟩
abbrev ZD:Array yD:= #[qY ⟨#[]⟩,qZ yB 0 0,qX qm 0,qX qm 0,qZ yB 0 0,qZ yB 0 0,qX qm 0]
theorem Dk.qO4 {c n X:Nat} {i:List T} {d:DV} {a:List Rr} (h:Dk c i n X w d a):qIz d.rp d.m d.rc:=fun e=>by
 have f:0<kN a:=by rw[h.rm];exact h.m1
 obtain⟨b,off,g,_⟩:=h.rdr 0 a[0] (qPu f);rw[g]at e;cases e
structure Cp (lev:Nat) (ps:List T) (n X:Nat) (w:yC) (B:Nat) (d d':DV) (rs:List Rr):Prop where
 dk:Dk lev ps n X w d' rs
 own:yx LRr w B TRr d'.rp d'.m d'.rc rs
 ea:d'.a=d.a
 es:d'.sh=d.sh
 em:d'.m=d.m
 ed:d'.dec=d.dec
theorem qKp (a0 n X:Nat) (ps:List T) (d:DV) (rs:List Rr) (w:yC) (h:Dk a0 ps n X w d rs) (a1:n<=1000):
  yG yK 143 #[d.v] w fun e w'=>∃d',e=qx d'.v/\Cp a0 ps n X w' w.heap.size d d' rs/\yM w w w':=by
 have HK:=zH h;obtain⟨B,hB⟩:=zB w.heap.size;obtain⟨W,hW⟩:=zB ((w.alloc (qp d.cl TDk)).alloc (qp ZD TDk));have q:yM w w W:=by rw[<-hW];exact((yR _ _).alloc (qPq _) _).alloc (by rw[zA];omega) _
 have hz:W.heap.size=B+2:=by rw[<-hW,zA,zA,hB]
 have HD:=yT (W.heap[B]? =yA (qp d.cl TDk)) (by rw[<-hW,<-hB];exact(Lib.alloc_old _ _ _ (by rw[zA];omega)).trans (zAh w _));have HR:=yT (W.heap[B+1]? =yA (qp ZD TDk)) (by rw[<-hW,<-hB,<-zA w (qp d.cl TDk)];exact zAh _ _);have HH:=zH (h.below q);have L:=h.en;have t:=h.cap;have m8:=h.m8;have x:kN d.sh.held<=64:=by have h1:=h.rgt;unfold xX at h1;omega
 have HB:=yT (yM B w W) (by rw[<-hB];exact q);obtain⟨HZ,HE,HW,u⟩:=yX hz hB hW (qNu (ents a0 ps n) n (qLc a0 ps n) za d.ip d.ic h.inil W (h.idx.below q rfl));obtain⟨a,ip,z,ic,sh,sa,sk,rp,m,rc,dec⟩:=d;simp only at L t m8 x u;subst L;unfold DV.v;unfold DV.cl at HD HW⊢;simp only at HD HW⊢;rw[hB];clear h q hz hW hB;obtain⟨f,c,y⟩:=sh;simp only at HD HW t x⊢;obtain⟨y0,y1,y2,y3,y4,y5,y6⟩:=qH7 HD.out;go_enter func143,ntmps143;go_wp2_with fail;rw[HE.out,show(w.alloc (qp #[qY a,qZ ip z ic,qX qm f,qX qm c,qZ sa (kN y) sk,qZ rp m rc,dec] TDk)).alloc (qp ZD TDk)=W from HW.out];clear y0 y1 y2 y3 y4 y5 y6;(with_reducible refine u.out.mono ?_);rintro e w1 ⟨Z,c1,rfl,G,F,o⟩;obtain⟨D1,R1⟩:=yU (hkeep HD.out o) (hkeep HR.out o);obtain⟨y0,y1,y2,y3,y4,y5,y6⟩:=qH7 D1.out;have f1:=qH9 D1.out 1;obtain⟨v1,j⟩:=zB (w1.setCell ⟨B,1,yB⟩ (qZ Z z c1));have D2:=yT (v1.heap[B]? =yA (qp #[qY a,qZ Z z c1,qX qm f,qX qm c,qZ sa (kN y) sk,qZ rp m rc,dec] TDk)) (by rw[<-j];exact qI0 D1.out);have R2:=yT (v1.heap[B+1]? =yA (qp ZD TDk)) (by rw[<-j];exact(zAa (Nat.succ_ne_self B)).trans R1.out);have O2:=yT (yx LEn v1 (B+2) TEn Z z c1 (ents a0 ps z)) (by rw[<-HZ.out,<-j];exact qIj G (fun b q=>zAa q) (by rw[HZ.out];omega));have B2:=yT (yM B w v1/\B+2<=v1.heap.size) ⟨by rw[<-j];exact(HB.out.trans (o.mono (by rw[HZ.out];omega))).setCell (p:=⟨B,1,yB⟩) (qPq _) _,by rw[<-j];have:=o.size;have:=HZ.out;simp;omega⟩;obtain⟨N2,V,K2⟩:=yV F j (HK.out.below (by rw[HE.out];exact B2.out.1));have N:=zH (qNt y (kN y) rfl za sa sk K2.out.shw.nil v1 (qI3.1 K2.out.shw.src));clear u G F o j;go_wp2_with fail;rw[show w1.setCell ⟨B,1,yB⟩ (qZ Z z c1)=v1 from V.out];clear y0 y1 y2 y3 y4 y5 y6 f1;(with_reducible refine N.out.mono ?_);rintro e w2 ⟨p2,c2,rfl,P,O,l⟩;obtain⟨D3,R3,O3⟩:=yV (hkeep D2.out l) (hkeep R2.out l) (O2.out.below l (qPq _));obtain⟨y0,y1,y2,y3,y4,y5,y6⟩:=qH7 D3.out;have f1:=qH9 D3.out 4;obtain⟨v2,i⟩:=zB (w2.setCell ⟨B,4,yB⟩ (qZ p2 (kN y) c2));have D4:=yT (v2.heap[B]? =yA (qp #[qY a,qZ Z z c1,qX qm f,qX qm c,qZ p2 (kN y) c2,qZ rp m rc,dec] TDk)) (by rw[<-i];exact qI0 D3.out);have R4:=yT (v2.heap[B+1]? =yA (qp ZD TDk)) (by rw[<-i];exact(zAa (Nat.succ_ne_self B)).trans R3.out);have O4:=yT (yx LEn v2 (B+2) TEn Z z c1 (ents a0 ps z)) (by rw[<-i];exact qIj O3.out (fun b q=>zAa q) za);have P4:=yT (yx LHd v2 (B+2) THd p2 (kN y) c2 y) (by rw[<-i];exact qIj (P.base B2.out.2) (fun b q=>zAa q) za);have B4:=yT (yM B w v2/\B+2<=v2.heap.size) ⟨by rw[<-i];exact(B2.out.1.trans (l.mono (by have:=B2.out.2;omega))).setCell (p:=⟨B,4,yB⟩) (qPq _) _,by rw[<-i];have:=l.size;have:=B2.out.2;simp;omega⟩;obtain⟨N4,S,K4⟩:=yV O i (HK.out.below (by rw[HE.out];exact B4.out.1));have I:=zH (qNs rs m K4.out.rm za rp rc K4.out.qO4 v2 K4.out.rdr);clear N P O l i D1 R1 D2 R2 O2 B2 K2 D3 R3 O3;go_wp2_with fail;rw[show w2.setCell ⟨B,4,yB⟩ (qZ p2 (kN y) c2)=v2 from S.out];clear y0 y1 y2 y3 y4 y5 y6 f1;(with_reducible refine I.out.mono ?_);rintro e w3 ⟨p3,c3,rfl,H,M,k⟩;obtain⟨D5,R5,O5,P5⟩:=yX (hkeep D4.out k) (hkeep R4.out k) (O4.out.below k (qPq _)) (P4.out.below k (qPq _));obtain⟨y0,y1,y2,y3,y4,y5,y6⟩:=qH7 D5.out;have f1:=qH9 D5.out 5;obtain⟨v3,g⟩:=zB (w3.setCell ⟨B,5,yB⟩ (qZ p3 m c3));have D6:=yT (v3.heap[B]? =yA (qp #[qY a,qZ Z z c1,qX qm f,qX qm c,qZ p2 (kN y) c2,qZ p3 m c3,dec] TDk)) (by rw[<-g];exact qI0 D5.out);have R6:=yT (v3.heap[B+1]? =yA (qp ZD TDk)) (by rw[<-g];exact(zAa (Nat.succ_ne_self B)).trans R5.out);have O6:=yT (yx LEn v3 (B+2) TEn Z z c1 (ents a0 ps z)) (by rw[<-g];exact qIj O5.out (fun b q=>zAa q) za);have P6:=yT (yx LHd v3 (B+2) THd p2 (kN y) c2 y) (by rw[<-g];exact qIj P5.out (fun b q=>zAa q) za);have Q6:=yT (yx LRr v3 (B+2) TRr p3 m c3 rs) (by rw[<-g];exact qIj (H.base B4.out.2) (fun b q=>zAa q) za);have B6:=yT (yM B w v3/\B+2<=v3.heap.size) ⟨by rw[<-g];exact(B4.out.1.trans (k.mono (by have:=B4.out.2;omega))).setCell (p:=⟨B,5,yB⟩) (qPq _) _,by rw[<-g];have:=k.size;have:=B4.out.2;simp;omega⟩;obtain⟨N6,R⟩:=yU M g;obtain⟨z0,z1,z2,z3,z4,z5,z6⟩:=qH7 R5.out;have g0:=qH9 R5.out 0;have g1:=qH9 R5.out 1;have g2:=qH9 R5.out 2;have g3:=qH9 R5.out 3;have g4:=qH9 R5.out 4;have g5:=qH9 R5.out 5;have g6:=qH9 R5.out 6;clear I H M k g D4 R4 O4 P4 B4 K4 D5 R5 O5 P5;go_wp2;clear y0 y1 y2 y3 y4 y5 y6 f1 z0 z1 z2 z3 z4 z5 z6 g0 g1 g2 g3 g4 g5 g6;rw[show w3.setCell ⟨B,5,yB⟩ (qZ p3 m c3)=v3 from R.out];obtain⟨v4,s⟩:=zB (((((((v3.setCell ⟨B+1,0,yB⟩ (qY a)).setCell ⟨B+1,1,yB⟩ (qZ Z z c1)).setCell ⟨B+1,2,yB⟩ (qX qm f)).setCell ⟨B+1,3,yB⟩ (qX qm c)).setCell ⟨B+1,4,yB⟩ (qZ p2 (kN y) c2)).setCell ⟨B+1,5,yB⟩ (qZ p3 m c3)).setCell ⟨B+1,6,yB⟩ (qX qm (dec:Int)));have hR:v4.heap[B+1]? =yA (qp #[qY a,qZ Z z c1,qX qm f,qX qm c,qZ p2 (kN y) c2,qZ p3 m c3,dec] TDk):=by
  rw[<-s];exact qI0 (qI0 (qI0 (qI0 (qI0 (qI0 (qI0 R6.out))))))
 have r:∀b,b≠B+1->v4.heap[b]? =v3.heap[b]? :=fun b q=>by
  rw[<-s];exact(zAa q).trans ((zAa q).trans ((zAa q).trans ((zAa q).trans ((zAa q).trans ((zAa q).trans (zAa q))))))
 have Y:yM B w v4:=by
  rw[<-s];exact((((((B6.out.1.setCell (p:=⟨B+1,0,yB⟩) (qRu _) _).setCell (p:=⟨B+1,1,yB⟩) (qRu _) _).setCell (p:=⟨B+1,2,yB⟩) (qRu _) _).setCell (p:=⟨B+1,3,yB⟩) (qRu _) _).setCell (p:=⟨B+1,4,yB⟩) (qRu _) _).setCell (p:=⟨B+1,5,yB⟩) (qRu _) _).setCell (p:=⟨B+1,6,yB⟩) (qRu _) _
 have o1:=qIj O6.out r za;have o2:=qIj P6.out r za;have o3:=qIj Q6.out r za;rw[show((((((v3.setCell ⟨B+1,0,yB⟩ (qY a)).setCell ⟨B+1,1,yB⟩ (qZ Z z c1)).setCell ⟨B+1,2,yB⟩ (qX qm f)).setCell ⟨B+1,3,yB⟩ (qX qm c)).setCell ⟨B+1,4,yB⟩ (qZ p2 (kN y) c2)).setCell ⟨B+1,5,yB⟩ (qZ p3 m c3)).setCell ⟨B+1,6,yB⟩ (qX qm (dec:Int))=v4 from s];refine qP5 (v:= .agg #[qY a,qZ Z z c1,qX qm f,qX qm c,qZ p2 (kN y) c2,qZ p3 m c3,dec]) (Cache.qIw rfl _ _ _ ⟨B+1,0,yB⟩ _ rfl (ld7 hR)) rfl ?_;have K:=HK.out;refine⟨⟨a,Z,z,c1,⟨f,c,y⟩,p2,c2,p3,m,c3,dec⟩,rfl,⟨⟨rfl,qKi o1,o1.rd,N2.out,⟨qI3.2 o2.rd,N4.out,K.shw.wf⟩,qKi o2,K.rgt,K.held,o3.rd,K.rm,K.m1,K.m8,qKi o3,K.okr,K.dec,Ty.own o1,Ty.own o2,Ty.own o3⟩,o3.base za,rfl,rfl,rfl,rfl⟩,Y⟩
end Sk
namespace Sk
open Hf Bt Zr Wg Ch Tn Sm Ix2 Sd
open Front (ival)
variable {w:yC} {B:Nat} {a b c:yD}
theorem st7 {d e f g a' b' c' d' e' f' g':yD} (h:w.heap[B]? =yA (qp #[a,b,c,d,e,f,g] TDk)) (n:∀z∈[a',b',c',d',e',f',g'],z.oneCell'=yH):
  ∃w',((((((w.setCell ⟨B,0,yB⟩ a').setCell ⟨B,1,yB⟩ b').setCell ⟨B,2,yB⟩ c').setCell ⟨B,3,yB⟩ d').setCell ⟨B,4,yB⟩ e').setCell ⟨B,5,yB⟩ f').setCell ⟨B,6,yB⟩ g'=w'/\(storeVar TDk ⟨B,0,yB⟩ (.agg #[a',b',c',d',e',f',g'])).run yK w= .ok () w'/\w'.heap[B]? =yA (qp #[a',b',c',d',e',f',g'] TDk)/\(∀D,D<=B->yM D w w')/\w'.heap.size=w.heap.size/\(∀k,k≠B->w'.heap[k]? =w.heap[k]?):=by
 obtain⟨c0,c1,c2,c3,c4,c5,m⟩:=qH7 h;have i:=qSl (P:=yK) w B 0 TDk #[a',b',c',d',e',f',g'] (fun j p=>by
  have r:j<7:=p;refine⟨?_,qH9 h _⟩;obtain rfl|rfl|rfl|rfl|rfl|rfl|rfl:j=0\/j=1\/j=2\/j=3\/j=4\/j=5\/j=6:=za
  .rw[show 0+0=0 from rfl,c0];rfl
  .rw[show 0+1=1 from rfl,c1];rfl
  .rw[show 0+2=2 from rfl,c2];rfl
  .rw[show 0+3=3 from rfl,c3];rfl
  .rw[show 0+4=4 from rfl,c4];rfl
  .rw[show 0+5=5 from rfl,c5];rfl
  .rw[show 0+6=6 from rfl,m];rfl) zf (by simpa using n)
 have l:=xS [a',b',c',d',e',f',g'] w B 0 _ _ _ h;rw[show xO #[a,b,c,d,e,f,g] 0 [a',b',c',d',e',f',g']= #[a',b',c',d',e',f',g']by simp[xO]]at l;exact⟨w.setCells B 0 [a',b',c',d',e',f',g'],rfl,i,l,fun D o=>xA _ B 0 (yR _ w) o,xL _ w B 0,fun k q=>xH _ w B 0 k q⟩
theorem qOl (d:Nat) (f:1<=d) (g:d<=64):Cache.newS (d:Int)=⟨d,0,[]⟩/\Cache.newE (d:Int)=0/\xX ⟨d,0,[]⟩:=by
 have e:xX ⟨d,0,[]⟩:=by
  unfold xX Cache.Good;exact⟨by simp only;omega,by simp only;omega,zm,zm,zm,zm,by simp[Cache.qId],by simp[Cache.Apart]⟩
 have h:=(Cache.zIu _).2 e;unfold Cache.newS Cache.newE;rw[qPr h,qPr h];exact⟨rfl,rfl,e⟩
theorem run_mk {P:Program} {ρ:Operand->yD} {o:Oper} {w' d:yC} {n m k:Nat} (f:w.heap.size=n) (e:w'=d) (h:(execOp ρ o).run P w= .ok (.value (qZ (yA ⟨w,0,yB⟩) m k)) w'):(execOp ρ o).run P w= .ok (.value (qZ (yA ⟨n,0,yB⟩) m k)) d:=by
 subst f e;exact h
abbrev TSf:yE:=36
theorem qOx (h:w.heap[B]? =yA (qp #[a,b,c] TSf)):(loadVar TSf ⟨B,0,yB⟩).run yK w= .ok (.agg #[a,b,c]) w:=by
 simp[loadVar,go_sem,yQ,h]
abbrev Z14:Array yD:=(Kit.flat LRr [free,free]).toArray
theorem qNp (a5 n X:Nat) (ps:List T) (a:ByteArray) (m:Nat) (r1:1<=m) (r2:m<=64) (F:FuncId) (a4:Array yD) (hF:∀(args:Array yD) (w:yC),(callFunc F args).run yK w= .ok (.enter F args) w) (w:yC)
  (hT:∀w',yM w w w'->yG yK F a4 w' fun e a6=>∃p c,e=qx (qg #[qZ p n c,qX qm 0])/\yx LEn a6 w'.heap.size TEn p n c (ents a5 ps n)/\yM w' w' a6):
  yG yK 58 #[qY a,m,qX qm 2,.func (.func F) #[] a4] w fun e w'=>∃d,e=qx (qg #[d.v,qX qm 0])/\Dk a5 ps n X w' d [free,free]/\d.a=a/\d.sh=⟨m,0,[]⟩/\d.dec=0/\d.m=2/\yM w w w':=by
 obtain⟨n1,n2,n3⟩:=qOl m r1 r2;have HN:=zH (fun w'=>Cache.qN7 (m:Int) w');rw[n1,n2]at HN;unfold Cache.zC7 at HN;obtain⟨HR,HT⟩:=yU n3 hT;obtain⟨B,y⟩:=zB w.heap.size;have HE:=zH y;obtain⟨W,hW⟩:=zB (w.alloc (qp ZD TDk));have HB:=yT (yM B w W/\W.heap.size=B+1) ⟨by rw[<-hW,<-y];exact(yR _ _).alloc (qPq _) _,by rw[<-hW,zA,y]⟩;have O:=yT (W.heap[B]? =yA (qp ZD TDk)) (by rw[<-hW,<-y];exact zAh w _);have HW:=zH hW;rw[y];clear n1 n2 n3 hT y hW;go_enter func58,ntmps58;go_wp2_with fail;rw[HE.out,show w.alloc (qp ZD TDk)=W from HW.out];(with_reducible refine(HN.out _).mono ?_);rintro e z ⟨rfl,l⟩;have R1:=zH (hkeep O.out l);have B1:=yT (yM B w z/\B+1<=z.heap.size) ⟨HB.out.1.trans (l.mono (by have:=HB.out.2;omega)),by have:=l.size;have:=HB.out.2;omega⟩;clear HN l;obtain⟨w2,f⟩:=zB (z.alloc (qp #[m,qX qm 0,qZ yB 0 0] 36));obtain⟨S,hS⟩:=zB z.heap.size;have S2:=yT (w2.heap[S]? =yA (qp #[m,qX qm 0,qZ yB 0 0] 36)) (by rw[<-f,<-hS];exact zAh z _);have B2:=yT (yM B w w2/\B+1<=w2.heap.size) ⟨by rw[<-f];exact B1.out.1.alloc (by have:=B1.out.2;omega) _,by rw[<-f,zA];have:=B1.out.2;omega⟩;have R2:=yT (w2.heap[B]? =yA (qp ZD TDk)) (by rw[<-f];exact(Lib.alloc_old _ _ _ (zAd R1.out)).trans R1.out);obtain⟨H,R,HS⟩:=yV (HT.out w2 (by rw[HE.out];exact B2.out.1)) f hS;clear f hS HT B1 R1;go_wp2_with fail;rw[show z.alloc (qp #[m,qX qm 0,qZ yB 0 0] 36)=w2 from R.out,HS.out];(with_reducible refine H.out.mono ?_);rintro e q ⟨p,c,rfl,ho,i⟩;have x:=qKi ho;have M:qIz p n c:=fun e=>by
  subst e;obtain⟨_,h2⟩:=ho;rcases h2 with⟨h2,h4⟩|⟨g,a8,a9,hv,_⟩
  .injection h2 with _ h5 h6;exact⟨h4,h6⟩
  .injection hv with ha;cases ha
 have O3:=zH (ho.rd);have B3:=yT (yM B w q.drew/\B+1<=q.drew.heap.size) ⟨(B2.out.1.trans (i.mono (by have:=B2.out.2;omega))).drew,by have:=i.size;have:=B2.out.2;show _<=q.heap.size;omega⟩;have R3:=yT (q.drew.heap[B]? =yA (qp ZD TDk)) (hkeep R2.out i.drew);have G:q.drew.heap[S]? =yA (qp #[m,qX qm 0,qZ yB 0 0] 36):=hkeep S2.out i.drew;have S3:=zH G;obtain⟨w4,b⟩:=zB (q.drew.alloc (qp Z14 TRr));obtain⟨Z,hZ⟩:=zB q.drew.heap.size;have a1:w4.heap[Z]? =yA (qp Z14 TRr):=by rw[<-b,<-hZ];exact zAh _ _
 have I:w4.heap[B]? =yA (qp ZD TDk):=by rw[<-b];exact(Lib.alloc_old _ _ _ (zAd R3.out)).trans R3.out
 have j:=Kit.zNf (L:=LRr) q.drew [free,free] TRr q.drew.heap.size (qPq _) (by unfold maxLen;simp);rw[hZ,b]at j;obtain⟨w5,_,t,K,s,N,k⟩:=st7 (a':=qY a) (b':=qZ p n c) (c':=qX qm (m:Int)) (d':=qX qm 0) (e':=qZ yB 0 0) (f':=qZ (yA ⟨Z,0,yB⟩) 2 2) (g':=qX qm 0) I (by simp[Value.oneCell']);obtain⟨H5,a3,Y,HZ⟩:=yX K t b hZ;have S4:=yT (w4.heap[S]? =yA (qp #[m,qX qm 0,qZ yB 0 0] TSf)) (by rw[<-b];exact(Lib.alloc_old _ _ _ (zAd S3.out)).trans S3.out);obtain⟨HO,o⟩:=yU j k;have B5:=yT (yM B w w5) ((show yM B w w4 by rw[<-b];exact B3.out.1.alloc (by have:=B3.out.2;omega) _).trans (s B (qPq _)));have V:=yT (yM q.drew.heap.size q.drew w4) (by rw[<-b];exact(yR _ _).alloc (qPq _) _);obtain⟨a2,P,a0⟩:=yV x M ho;have a7:=yT (w2.heap.size<=q.heap.size) i.size;clear H ho i G b hZ a1 I j K t s N k x M;go_wp2;refine zS [6] (fun W9=>W9.heap[S]? =yA (qp #[m,qX qm 0,qZ yB 0 0] TSf)) [0,0,0,0,8,23,63,127] 8<|zu 0 38 (qY a)<|zu 1 39 (qZ p n c)<|zy 2 40 (.agg #[m,qX qm 0,qZ yB 0 0]) (fun w hS=>zl 36 10 (qOx hS)) S3.out<|zp [3]<|zk 41 (qX qm 2)<|zn<| ?_
 refine Kit.zLe (w':=w4) 4 (yA 42) (qZ (yA ⟨Z,0,yB⟩) 2 2) 31 zf zf rfl rfl zf (run_mk HZ.out Y.out zf) (qy (qy (S4.out))) ?_;refine zp [5]<|zk 43 (.agg #[qY a,qZ p n c,m,qX qm 0,qZ yB 0 0,qZ (yA ⟨Z,0,yB⟩) 2 2,qX qm 0])<|zn<|zw 6 yB (zr 39 8 43 (a3.out)) (qy (qz zf))<|zp [7]<|zk 9 (qX qm 0)<|zn<|zE<| ?_
 simp only[zP,zI,Act.put,qPx,qPw,qPy];go_wp2;refine qP5 (v:=qg #[.agg #[qY a,qZ p n c,m,qX qm 0,qZ yB 0 0,qZ (yA ⟨Z,0,yB⟩) 2 2,qX qm 0],qX qm 0]) ?_ rfl ?_
 .exact Cache.qJa (p:=8) (u:=9) rfl _ _ _ ⟨B,0,yB⟩ _ rfl (ld7 H5.out)
 have aa:B+1<=Z:=by have:=B3.out.2;have:=HZ.out;omega
 have o1:=qIj ((a0.out.below (yR q.heap.size q).drew (qPq _)).below V.out (qPq _)) o.out (by have:=B2.out.2;omega);have o2:=qIj HO.out o.out za;refine⟨⟨a,p,n,c,⟨m,0,[]⟩,yB,0,yA ⟨Z,0,yB⟩,2,2,0⟩,rfl,⟨rfl,a2.out,o1.rd,P.out,⟨Cache.qIg.nil _ _,fun _=>⟨rfl,rfl⟩,fun h hh=>by cases hh⟩,qPq _,HR.out,fun h hh=>(by cases hh),o2.rd,rfl,(by decide:1<=2),(by decide:2<=8),qPq _,fun r hr=> ?_,qQl _,Ty.own o1,fun _ _ h=>(by cases h),Ty.own o2⟩,rfl,rfl,rfl,rfl,B5.out⟩;simp only[qP6,qT9,or_false,or_self]at hr;exact qz hr
theorem qPe (q n X:Nat) (y:List T) (A:Arc q y (zCt q y) n) (P:Ps q y n) (a2:(zCt q y).size<=100000000) (R:Nat) (r1:1<=R) (r2:R<=64) (w:yC):
  yG yK 13 #[qY (zCt q y),qY ⟨(qK3 (zCt q y) n (ents q y n)).toArray⟩,R,qX qm 2] w fun e w'=>∃d,e=qx (qg #[d.v,qX qm 0])/\Dk q y n X w' d [free,free]/\d.a=zCt q y/\d.sh=⟨R,0,[]⟩/\d.dec=0/\d.m=2/\yM w w w':=by
 have V:=zH (fun w=>qPm q n y A P a2 w);obtain⟨s,Z⟩:=zB ((⟨(qK3 (zCt q y) n (ents q y n)).toArray⟩:ByteArray));obtain⟨a,Y⟩:=zB (zCt q y);rw[Z,Y]at V;rw[Z,Y];obtain⟨B,N⟩:=zB w.heap.size;obtain⟨W,O⟩:=zB (((w.alloc (qp #[qY a] 9)).alloc (qp #[qY s] 9)).alloc (qp ZD TDk));have hz:W.heap.size=B+3:=by rw[<-O,zA,zA,zA,N]
 have hb:yM B w W:=by rw[<-O,<-N];exact(((yR _ _).alloc (qPq _) _).alloc (by simp only[zA];omega) _).alloc (by simp only[zA];omega) _
 have S:W.heap[B]? =yA (qp #[qY a] 9):=by rw[<-O,<-N];exact(Lib.alloc_old _ _ _ (by simp only[zA];omega)).trans ((Lib.alloc_old _ _ _ (by simp only[zA];omega)).trans (zAh w _))
 have S0:W.heap[B+1]? =yA (qp #[qY s] 9):=by rw[<-O,<-N,<-zA w (qp #[qY a] 9)];exact(Lib.alloc_old _ _ _ (by simp only[zA];omega)).trans (zAh _ _)
 have R0:=yT (W.heap[B+1+1]? =yA (qp ZD TDk)) (by rw[<-O,<-N,show w.heap.size+1+1=((w.alloc (qp #[qY a] 9)).alloc (qp #[qY s] 9)).heap.size from by rw[zA,zA]];exact zAh _ _);have HF:∀(args:Array yD) (w:yC),(callFunc 59 args).run yK w= .ok (.enter 59 args) w:=enters_of func59 zf rfl;have HD:=zH (qNp q n X y a R r1 r2 59 #[qc (yA ⟨B,0,yB⟩),qc (yA ⟨B+1,0,yB⟩)] HF W (fun w' hw=>by
  have y0:w'.cell? ⟨B,0,yB⟩=yA (qY a):=by simp[yQ,hkeep S hw]
  have y1:w'.cell? ⟨B+1,0,yB⟩=yA (qY s):=by simp[yQ,hkeep S0 hw]
  have K:=zH (V.out w');clear HF hw S S0 R0 hb hz O N Z Y P A V;go_enter func59,ntmps59;go_wp2_with fail;(with_reducible refine K.out.mono ?_);rintro e w1 ⟨p,c,rfl,ho,b⟩;clear y0 y1;go_wp2;go_ret2;exact⟨p,c,rfl,ho,b⟩))
 obtain⟨HB,HW,HE,HZ⟩:=yX hb O N hz;have y0:W.cell? ⟨B,0,yB⟩=yA (qY a):=by simp[yQ,S]
 rw[N];clear P A Z Y N O hz hb S S0 HF V;go_enter func13,ntmps13;go_wp2_with fail;clear y0;rw[HE.out,show((w.alloc (qp #[qY a] 9)).alloc (qp #[qY s] 9)).alloc (qp #[qY ⟨#[]⟩,qZ yB 0 0,qX qm 0,qX qm 0,qZ yB 0 0,qZ yB 0 0,qX qm 0] TDk)=W from HW.out];(with_reducible refine HD.out.mono ?_);rintro e w1 ⟨d,rfl,t,G,l,k,o,b⟩;have z:=hkeep R0.out b;obtain⟨w2,i,H,r,j,I,f⟩:=st7 (a':=qY d.a) (b':=qZ d.ip d.n d.ic) (c':=qX qm d.sh.room) (d':=qX qm d.sh.clock) (e':=qZ d.sa (kN d.sh.held) d.sk) (f':=qZ d.rp d.m d.rc) (g':=qX qm (d.dec:Int)) z (by simp[Value.oneCell']);have x:Dk q y n X w2 d [free,free]:=t.far z qW qW qW f;have F:yM B w w2:=(HB.out.trans (b.mono (by rw[HZ.out];omega))).trans (j B za);obtain⟨HH,HK,h,M⟩:=yX r x (yS G (yS l (yS k o))) F;unfold DV.v DV.cl;obtain⟨a',ip,n',ic,⟨g,a0,a1⟩,sa,sk,rp,m,rc,dec⟩:=d;simp only at i HH⊢;obtain⟨x0,x1,x2,x3,x4,x5,x6⟩:=qH7 z;have g0:=qH9 z 0;have g1:=qH9 z 1;have g2:=qH9 z 2;have g3:=qH9 z 3;have g4:=qH9 z 4;have g5:=qH9 z 5;have g6:=qH9 z 6;have L:=zH i;clear t G l k o b z H r j I f x F i;go_wp2;rw[show((((((w1.setCell ⟨B+1+1,0,yB⟩ (qY a')).setCell ⟨B+1+1,1,yB⟩ (qZ ip n' ic)).setCell ⟨B+1+1,2,yB⟩ (qX qm g)).setCell ⟨B+1+1,3,yB⟩ (qX qm a0)).setCell ⟨B+1+1,4,yB⟩ (qZ sa (kN a1) sk)).setCell ⟨B+1+1,5,yB⟩ (qZ rp m rc)).setCell ⟨B+1+1,6,yB⟩ (qX qm (dec:Int))=w2 from L.out];refine qP5 (v:=qg #[.agg #[qY a',qZ ip n' ic,qX qm g,qX qm a0,qZ sa (kN a1) sk,qZ rp m rc,dec],qX qm 0]) ?_ rfl ?_
 .exact Cache.qJa (p:=8) (u:=9) rfl _ _ _ ⟨B+1+1,0,yB⟩ _ rfl (ld7 HH.out)
 .exact⟨_,rfl,HK.out,h.out.1,h.out.2.1,h.out.2.2.1,h.out.2.2.2,M.out⟩
end Sk
namespace Sk
open Hf Bt Zr Ch Tn Sm Ix2 Sd
open Front (ival)
variable {lev n X B D g:Nat} {w w':yC} {u v:yD}
abbrev TAt:yE:=254
abbrev TPd:yE:=252
structure Dm (lev:Nat) (ps:List T) (n:Nat) (w:yC) (d:DV):Prop where
 en:d.n=n
 ic:n<=d.ic
 idx:xP LEn w d.ip (ents lev ps n)
 inil:qIz d.ip n d.ic
 shw:kH w d.sh d.sa d.sk
 cap:kN d.sh.held<=d.sk
 rgt:xX d.sh
 held:∀h∈d.sh.held,∃k:Nat,h.blk=(k:Int)/\k<n/\h.txt=xB (ps.getD k [])
 m1:1<=d.m
 m8:d.m<=8
 rc:d.m<=d.rc
 dec:d.dec<=1099511627776
 tI:Ty w d.ip TEn
 tS:Ty w d.sa THd
theorem Dm.below {b:List T} {d:DV} (h:Dm lev b n w d) (a:yM w w w'):Dm lev b n w' d:=
 ⟨h.en,h.ic,h.idx.below a rfl,h.inil,h.shw.below a rfl,h.cap,h.rgt,h.held,h.m1,h.m8,h.rc,h.dec,h.tI.below a,h.tS.below a⟩
theorem Dm.far {i:List T} {d:DV} {R:Nat} {j:Array yD} {t:yE} {f:Nat×Nat} (h:Dm lev i n w d) (a:w.heap[R]? =yA (qp j t f)) (c:TEn≠t) (e:THd≠t) (b:∀k,k≠R->w'.heap[k]? =w.heap[k]?):Dm lev i n w' d:=
 ⟨h.en,h.ic,qJm h.idx h.tI a c b,h.inil,⟨qI3.2 (qJm (qI3.1 h.shw.src) h.tS a e b),h.shw.nil,h.shw.wf⟩,h.cap,h.rgt,h.held,h.m1,h.m8,h.rc,h.dec,qJk h.tI a c b,qJk h.tS a e b⟩
theorem Dm.of {a:List T} {d:DV} {b:List Rr} (h:Dk lev a n X w d b):Dm lev a n w d:=
 ⟨h.en,h.ic,h.idx,h.inil,h.shw,h.cap,h.rgt,h.held,h.m1,h.m8,h.rc,h.dec,h.tI,h.tS⟩
structure AW (lev:Nat) (ps:List T) (n:Nat) (w:yC) (B D g:Nat) (d:DV) (rs:List Rr):Prop where
 blk:w.heap[D]? =yA (qp d.cl TDk)
 lo:B<=D
 rp:d.rp=yA ⟨g,0,yB⟩
 own:yx LRr w B TRr (yA ⟨g,0,yB⟩) d.m d.rc rs
 dm:Dm lev ps n w d
theorem AW.below {b:List T} {d:DV} {c:List Rr} (h:AW lev b n w B D g d c) (a:yM w w w'):AW lev b n w' B D g d c:=
 ⟨hkeep h.blk a,h.lo,h.rp,h.own.below a (qPq _),h.dm.below a⟩
theorem AW.dk {a:List T} {d:DV} {b:List Rr} (h:AW lev a n w B D g d b) (c:∀r∈b,okR lev a n X r):Dk lev a n X w d b:=
 ⟨h.dm.en,h.dm.ic,h.dm.idx,h.dm.inil,h.dm.shw,h.dm.cap,h.dm.rgt,h.dm.held,by rw[h.rp];exact h.own.rd,h.own.len,h.dm.m1,h.dm.m8,h.dm.rc,c,h.dm.dec,h.dm.tI,h.dm.tS,by rw[h.rp];exact Ty.own h.own⟩
theorem AW.set {l:List T} {d:DV} {m:List Rr} (h:AW lev l n w B D g d m) (r:Nat) (x:r<d.m) (y:Rr):
  (storeVar TRr ⟨g,r*7,yB⟩ (.agg (LRr.cl y).toArray)).run yK w= .ok () (w.setCells g (r*7) (LRr.cl y))/\AW lev l n (w.setCells g (r*7) (LRr.cl y)) B D g d (m.set r y)/\yM B w (w.setCells g (r*7) (LRr.cl y))/\(w.setCells g (r*7) (LRr.cl y)).heap.size=w.heap.size:=by
 obtain⟨p,q⟩:=Kit.Own'.set (P:=yK) h.own zf r x y;obtain⟨o,f,j⟩:=Ty.own h.own g 0 rfl;have a:∀k,k≠g->(w.setCells g (r*7) (LRr.cl y)).heap[k]? =w.heap[k]? :=fun k t=>xH _ w g _ k t;have b:D≠g:=fun e=>by
  have i:=h.blk;rw[e]at i;have s:yA (Obj.cells d.cl TDk (0,0))=yA (Obj.cells o TRr f):=i.symm.trans j;exact absurd (qQ6 (qPv s)).2.1 qW
 have c:B<=g:=h.own.block g rfl;exact⟨p,⟨(a D b).trans h.blk,h.lo,h.rp,q,h.dm.far j qW qW a⟩,xA _ g _ (yR _ w) c,xL _ w g _⟩
theorem qJg (h:w.heap[B]? =yA (qp #[u,v] TAt)):(loadVar TPd ⟨B,0,yB⟩).run yK w= .ok u w:=yw (by simp[yQ,h]) zf zf
theorem qOy (h:w.heap[B]? =yA (qp #[u,v] TAt)):(loadVar 3 ⟨B,1,yB⟩).run yK w= .ok v w:=yw (by simp[yQ,h]) zf zf
theorem qKf (h:w.heap[B]? =yA (qp #[u,v] TAt)):(loadVar TAt ⟨B,0,yB⟩).run yK w= .ok (.agg #[u,v]) w:=by
 simp[loadVar,go_sem,yQ,h]
theorem qI6 (lev n:Nat) (I:List T) (B D g:Nat) (d:DV) (K:List Rr) (r:Nat) (G:r<d.m) (w:yC) (h:AW lev I n w B D g d K):
  yG yK 254 #[.agg #[qc (yA ⟨D,0,yB⟩),r]] w fun e w'=>e=qx (qc (yA ⟨g,r*7,yB⟩))/\yM w w w':=by
 obtain⟨E,l⟩:=zB w.heap.size;obtain⟨W,i⟩:=zB (w.alloc (qp #[qc (yA ⟨D,0,yB⟩),r] TAt));have o:yM w w W:=by rw[<-i];exact(yR _ _).alloc (qPq _) _
 have j:W.drew.heap[E]? =yA (qp #[qc (yA ⟨D,0,yB⟩),r] TAt):=by rw[<-i,<-l];exact zAh w _
 have hd:=(h.below o.drew).blk;have H:=h.dm.m8;have f:=h.dm.rc;have b:=h.rp;obtain⟨a,M,N,L,sh,O,P,rp,m,p,dec⟩:=d;simp only at G H f b;subst b;unfold DV.cl at hd;obtain⟨L0,z⟩:=yU (qJg j) (qOy j);have F:=yT ((loadVar qKl ⟨D,5,yB⟩).run yK W.drew= .ok (qZ (yA ⟨g,0,yB⟩) m p) W.drew) (yw (qH7 hd).2.2.2.2.2.1 zf zf);obtain⟨HB,s,q⟩:=yV o i l;clear h o i l j hd;go_enter func254,ntmps254;go_wp2;rw[q.out,show w.alloc (qp #[qc (yA ⟨D,0,yB⟩),r] TAt)=W from s.out];refine zS [] (fun _=>True) [0,1,2,4,8,0,32,80,255] 9<|zp [0,1,2,3,4,5,6,7,8]<|zk 3 (zP E 0)<|zt 4 (zP D 0) (zl 252 3 (L0.out))<|zk 5 (zP D 0)<|zk 6 (zP D 5)<|zt 7 (qZ (yA ⟨g,0,yB⟩) m p) (zl 37 6 (F.out))<|zk 8 (zP E 1)<|zt 9 (zI r) (zl 3 8 (z.out))<|zt 10 (qc (yA ⟨g,r*7,yB⟩)) (Kit.zAw (t:=37) (x:=(.tmp 7)) (y:=(.tmp 9)) (g:=g) (n:=m) (c:=p) (k:=r) (sz:=7) rfl zf zf za underlying37 (fun _=>sizeOf243 _) _)<|zk 2 (qc (yA ⟨g,r*7,yB⟩))<|zn<|zE<| ?_
 simp only[zP,zI,Act.put,qPx,qPw,qPy];go_wp2;go_ret;exact⟨rfl,HB.out.drew⟩
theorem st5 {a b c d e a' b' c' d' e':yD} (h:w.heap[B]? =yA (qp #[a,b,c,d,e] TEn)) (l:∀z∈[a',b',c',d',e'],z.oneCell'=yH):
  ∃w',(storeVar TEn ⟨B,0,yB⟩ (.agg #[a',b',c',d',e'])).run yK w= .ok () w'/\w'.heap[B]? =yA (qp #[a',b',c',d',e'] TEn)/\(∀D,D<=B->yM D w w')/\w'.heap.size=w.heap.size/\(∀k,k≠B->w'.heap[k]? =w.heap[k]?):=by
 obtain⟨c0,c1,c2,c3,c4⟩:=cells5 h;have f:=qSl (P:=yK) w B 0 TEn #[a',b',c',d',e'] (fun j o=>by
  have q:j<5:=o;refine⟨?_,qH9 h _⟩;obtain rfl|rfl|rfl|rfl|rfl:j=0\/j=1\/j=2\/j=3\/j=4:=za
  .rw[show 0+0=0 from rfl,c0];rfl
  .rw[show 0+1=1 from rfl,c1];rfl
  .rw[show 0+2=2 from rfl,c2];rfl
  .rw[show 0+3=3 from rfl,c3];rfl
  .rw[show 0+4=4 from rfl,c4];rfl) zf (by simpa using l)
 have i:=xS [a',b',c',d',e'] w B 0 _ _ _ h;rw[show xO #[a,b,c,d,e] 0 [a',b',c',d',e']= #[a',b',c',d',e']by simp[xO]]at i;exact⟨w.setCells B 0 [a',b',c',d',e'],f,i,fun D m=>xA _ B 0 (yR _ w) m,xL _ w B 0,fun k p=>xH _ w B 0 k p⟩
theorem qNw {o:Nat} {x:En} (c0:w.cell? ⟨B,o,yB⟩=yA (qX qm (x.i:Int))) (c1:w.cell? ⟨B,o+1,yB⟩=yA (qX qm (x.r:Int))) (c2:w.cell? ⟨B,o+2,yB⟩=yA (qX qm (x.f:Int))) (c3:w.cell? ⟨B,o+3,yB⟩=yA (qX qm (x.l:Int))) (c4:w.cell? ⟨B,o+4,yB⟩=yA (zAx x.u)):
  (loadVar TEn ⟨B,o,yB⟩).run yK w= .ok (enV x) w:=Kit.zHe (L:=LEn) (x:=x) (fun i hi=>by
  have h:i=0\/i=1\/i=2\/i=3\/i=4:=by have:i<5:=hi;omega
  rcases h with rfl|rfl|rfl|rfl|rfl
  .exact c0
  .exact c1
  .exact c2
  .exact c3
  .exact c4) (fun _=>sizeOf107 _) (fun _=>isAgg107 _)
abbrev ZE:Array yD:= #[qX qm 0,qX qm 0,qX qm 0,qX qm 0,qX .u32 0]
structure EW (lev:Nat) (ps:List T) (n:Nat) (w:yC) (B D g E:Nat) (d:DV) (rs:List Rr) (r:Nat):Prop where
 aw:AW lev ps n w B D g d rs
 bx:w.heap[E]? =yA (qp #[qc (yA ⟨D,0,yB⟩),r] TAt)
 zz:w.heap[E+1]? =yA (qp ZE TEn)
theorem EW.below {b:List T} {E r:Nat} {d:DV} {c:List Rr} (h:EW lev b n w B D g E d c r) (a:yM w w w'):EW lev b n w' B D g E d c r:=⟨h.aw.below a,hkeep h.bx a,hkeep h.zz a⟩
theorem qKv (lev n:Nat) (i:List T) (B D g:Nat) (d:DV) (m:List Rr) (r:Nat) (x:Rr) (hx:m[r]? =yA x) (hr:r<d.m) (hb:x.b<n) (a0:n<=1000) (w:yC) (h:AW lev i n w B D g d m):
  yG yK 256 #[.agg #[qc (yA ⟨D,0,yB⟩),r]] w fun e w'=>e=qx (enV (qIi lev i x.b))/\yM w w w':=by
 obtain⟨E,hE⟩:=zB w.heap.size;obtain⟨W,Z⟩:=zB ((w.alloc (qp #[qc (yA ⟨D,0,yB⟩),r] TAt)).alloc (qp ZE TEn));have o:yM w w W:=by rw[<-Z];exact((yR _ _).alloc (qPq _) _).alloc (by rw[zA];omega) _
 have hz:W.heap.size=E+2:=by rw[<-Z,zA,zA,hE]
 have E0:EW lev i n W.drew B D g E d m r:=⟨h.below o.drew,by show W.heap[E]? =_;rw[<-Z,<-hE];exact(Lib.alloc_old _ _ _ (by rw[zA];omega)).trans (zAh w _),by show W.heap[E+1]? =_;rw[<-Z,<-hE,<-zA w (qp #[qc (yA ⟨D,0,yB⟩),r] TAt)];exact zAh _ _⟩;obtain⟨Y,oi,a,_⟩:=rdE h.dm.idx x.b _ (qIx lev i n x.b hb);obtain⟨q,F⟩:=zB (qIi lev i x.b);have HS:=zH (fun w' hw=>qI6 lev n i B D g d m r hr w' hw);have R:=h.dm.ic;have LA:=yT (∀f,EW lev i n f B D g E d m r->(loadVar TAt ⟨E,0,yB⟩).run yK f= .ok (.agg #[qc (yA ⟨D,0,yB⟩),r]) f) fun f l=>qKf l.bx;have LP:=yT (∀f,EW lev i n f B D g E d m r->(loadVar TPd ⟨E,0,yB⟩).run yK f= .ok (qc (yA ⟨D,0,yB⟩)) f) fun f l=>qJg l.bx;have LI:=yT (∀f,EW lev i n f B D g E d m r->(loadVar TEs ⟨D,1,yB⟩).run yK f= .ok (qZ (yA ⟨Y,oi,yB⟩) n d.ic) f) (fun f l=>by
  have h8:=l.aw.blk;unfold DV.cl at h8;rw[a,l.aw.dm.en]at h8;exact yw (qH7 h8).2.1 zf zf)
 have LB:=yT (∀f,EW lev i n f B D g E d m r->(loadVar 3 ⟨g,r*7+3,yB⟩).run yK f= .ok (qX qm (x.b:Int)) f) (fun f l=>by
  obtain⟨b0,o0,V,hc⟩:=l.aw.own.rd r x hx;have V:=qPv V;have h1:g=b0:=qPs Addr.block V;have h2:0=o0:=qPs Addr.off V;have h3:=hc 3 qW;rw[<-h1,<-h2]at h3;rw[qQd]at h3;exact yw h3 zf zf)
 have LE:=yT (∀f,EW lev i n f B D g E d m r->(loadVar TEn ⟨Y,oi+x.b*5,yB⟩).run yK f= .ok (enV q) f) (fun f l=>by
  obtain⟨g2,o2,M,c0,c1,c2,c3,c4⟩:=rdE l.aw.dm.idx x.b _ (qIx lev i n x.b hb);rw[a]at M;have V:=qPv M;have h1:Y=g2:=qPs Addr.block V;have h2:oi=o2:=qPs Addr.off V;rw[F,<-h1,<-h2]at c0 c1 c2 c3 c4;exact qNw c0 c1 c2 c3 c4)
 obtain⟨H0,HB,HW,HE,HZ⟩:=yY E0 o.drew Z hE hz;rw[F];obtain⟨ic,H⟩:=zB d.ic;rw[H]at LI R;obtain⟨b,N⟩:=zB x.b;rw[N]at LB LE hb;clear h o Z hE hz E0 a F hx H N;go_enter func256,ntmps256;go_wp2;rw[HE.out,show(w.alloc (qp #[qc (yA ⟨D,0,yB⟩),r] TAt)).alloc (qp #[qX qm 0,qX qm 0,qX qm 0,qX qm 0,qX .u32 0] TEn)=W from HW.out];refine zS [12] (fun f=>EW lev i n f B D g E d m r) [0,1,2,4,8,0,32,64,128,256,528,1024,4095] 13<|zu 0 3 (zP E 0)<|zy 1 4 (zP D 0) (fun w z=>zl 252 3 (LP.out w z)) H0.out<|zu 2 5 (zP D 0)<|zu 3 6 (zP D 1)<|zy 4 7 (qZ (yA ⟨Y,oi,yB⟩) n ic) (fun w z=>zl 30 6 (LI.out w z)) H0.out<|zp [5]<|zt 8 (.agg #[qc (yA ⟨D,0,yB⟩),r]) ((fun w z=>zl 254 1 (LA.out w z)) _ (H0.out))<|zn<|zx 6 9 254 #[.agg #[qc (yA ⟨D,0,yB⟩),r]] (HS.out _ H0.out.aw)<| ?_
 rintro e w5 ⟨rfl,s⟩;have H5:=zH (H0.out.below s);obtain⟨w6,G,K,j,P,I⟩:=st5 (a':=qX qm (q.i:Int)) (b':=qX qm (q.r:Int)) (c':=qX qm (q.f:Int)) (d':=qX qm (q.l:Int)) (e':=zAx q.u) H5.out.zz (by simp[Value.oneCell',zAx]);refine⟨_,rfl,qy (qy H5.out),?_⟩;refine zp [7,8,9,10,11]<|zk 10 (qc (yA ⟨g,r*7,yB⟩))<|zk 11 (qc (yA ⟨g,r*7+3,yB⟩))<|zt 12 (zI b) ((fun w z=>zl 3 11 (LB.out w z)) _ (H5.out))<|zt 13 (qc (yA ⟨Y,oi+b*5,yB⟩)) (Kit.qCt (t:=30) (x:=(.tmp 7)) (y:=(.tmp 12)) (g:=Y) (off:=oi) (n:=n) (c:=ic) (k:=b) (sz:=5) rfl zf zf za underlying30 (fun _=>sizeOf107 _) _)<|zt 14 (enV q) ((fun w z=>zl 107 13 (LE.out w z)) _ (H5.out))<|zn<|zw 12 yB (zr 107 2 14 (G)) (qy (qz zf))<|zE<| ?_
 simp only[zP,zI,Act.put,qPx,qPw,qPy];have O:(loadVar TEn ⟨E+1,0,yB⟩).run yK w6= .ok (enV q) w6:=by
  obtain⟨c0,c1,c2,c3,c4⟩:=cells5 K;exact qNw c0 c1 c2 c3 c4
 have L:yM w w w6:=(HB.out.trans (s.mono HB.out.size)).trans (j w.heap.size (by rw[HE.out];omega));obtain⟨HL,S⟩:=yU O L;clear O L s G K j P I;go_wp2;refine qP5 (v:=enV q) ?_ rfl ?_
 .exact Cache.qIw (p:=2) rfl _ _ _ ⟨E+1,0,yB⟩ _ rfl HL.out
 .exact⟨rfl,S.out⟩
end Sk
namespace Sk
open Bt Zr Wg Ch Sq Tn Sm Ix2 Sd
open Front (ival)
variable {w w':yC} {B lev n D g:Nat} {u v:yD}
abbrev TRp:yE:=44
theorem qIp {fn:Func} {t p:Tmp} {ty:yE} (h:fn.results= #[.tmp t,.cell p ty]) (tmps:Array yD) (P:Program) (w:yC) (a:yF) (v:yD) (d:tmps.getD p yN=qc (yA a)) (c:(loadVar ty a).run P w= .ok v w):
  (results fn tmps).run P w= .ok (qg #[tmps.getD t yN,v]) w:=by
 have b:tmps[p]?.getD yN=qc (yA a):=by simpa using d
 simp[results,h,b,asAddr,c,Result.andThen]
theorem qIv (h:w.heap[B]? =yA (qp #[u,v] TRp)):(loadVar TRp ⟨B,0,yB⟩).run yK w= .ok (.agg #[u,v]) w:=by
 simp[loadVar,go_sem,yQ,h]
theorem qKy {u' v':yD} (h:w.heap[B]? =yA (qp #[u,v] TRp)) (c:∀z∈[u',v'],z.oneCell'=yH):
  ∃w',(storeVar TRp ⟨B,0,yB⟩ (.agg #[u',v'])).run yK w= .ok () w'/\w'.heap[B]? =yA (qp #[u',v'] TRp)/\(∀D,D<=B->yM D w w')/\w'.heap.size=w.heap.size/\(∀k,k≠B->w'.heap[k]? =w.heap[k]?):=by
 obtain⟨c0,c1,l,m⟩:=qIa h;have a:=qSl (P:=yK) w B 0 TRp #[u',v'] (fun j e=>by
  have i:j<2:=e;refine⟨?_,qH9 h _⟩;obtain rfl|rfl:j=0\/j=1:=za
  .rw[show 0+0=0 from rfl,c0];rfl
  .rw[show 0+1=1 from rfl,c1];rfl) zf (by simpa using c)
 have b:=xS [u',v'] w B 0 _ _ _ h;rw[show xO #[u,v] 0 [u',v']= #[u',v']by simp[xO]]at b;exact⟨w.setCells B 0 [u',v'],a,b,fun D d=>xA _ B 0 (yR _ w) d,xL _ w B 0,fun k f=>xH _ w B 0 k f⟩
theorem AW.far {y:List T} {d:DV} {s:List Rr} {R:Nat} {l:Array yD} {t:yE} {f:Nat×Nat} (h:AW lev y n w B D g d s) (o:w.heap[R]? =yA (qp l t f)) (F:TEn≠t) (G:THd≠t) (H:TRr≠t) (I:TDk≠t) (q:∀k,k≠R->w'.heap[k]? =w.heap[k]?):AW lev y n w' B D g d s:=by
 have c:D≠R:=fun e=>by
  have x:=h.blk;rw[e]at x;have m:yA (Obj.cells d.cl TDk (0,0))=yA (Obj.cells l t f):=x.symm.trans o;exact I (qQ6 (qPv m)).2.1
 have K:yx LRr w' B TRr (yA ⟨g,0,yB⟩) d.m d.rc s:=by
  have L:=Ty.own h.own;obtain⟨z,j⟩:=h.own;refine⟨z,?_⟩;rcases j with j|⟨g',i,a,hv,b,p,r⟩
  .exact qz j
  .refine qy ⟨g',i,a,hv,b,(q g' (fun e=> ?_)).trans p,r⟩;rw[e]at p;have m:yA (Obj.cells a TRr (0,0))=yA (Obj.cells l t f):=p.symm.trans o;exact H (qQ6 (qPv m)).2.1
 exact⟨(q D c).trans h.blk,h.lo,h.rp,K,h.dm.far o F G q⟩
theorem AW.row {f:List T} {d:DV} {i:List Rr} (h:AW lev f n w B D g d i):∃a,w.heap[g]? =yA (qp a TRr):=by
 obtain⟨l,b⟩:=h.own;rcases b with⟨b,_⟩|⟨g',j,a,hv,k,e,r⟩
 .injection b with a3;cases a3
 .injection hv with ha
  have c:g=g':=qPs Addr.block (qPv ha);rw[c];exact⟨a,e⟩
theorem AW.at {y:List T} {d:DV} {m:List Rr} (h:AW lev y n w B D g d m) (r:Nat) (x:Rr) (s:m[r]? =yA x):
  w.cell? ⟨g,r*7,yB⟩=yA (qX qm (x.st:Int))/\w.cell? ⟨g,r*7+1,yB⟩=yA (qX qm (x.o:Int))/\w.cell? ⟨g,r*7+2,yB⟩=yA (qX qm (x.n:Int))/\w.cell? ⟨g,r*7+3,yB⟩=yA (qX qm (x.b:Int))/\w.cell? ⟨g,r*7+4,yB⟩=yA (qX qm (x.l:Int))/\w.cell? ⟨g,r*7+5,yB⟩=yA (qY x.got)/\w.cell? ⟨g,r*7+6,yB⟩=yA (qY x.txt):=by
 obtain⟨o,t,b,a⟩:=h.own.rd r x s;have b:=qPv b;have p:g=o:=qPs Addr.block b;have q:0=t:=qPs Addr.off b;subst p;subst q;have c:=a 0 qW;have e:=a 1 qW;have f:=a 2 qW;have i:=a 3 qW;have j:=a 4 qW;have k:=a 5 qW;have l:=a 6 qW;rw[qQd]at c e f i j k l;exact⟨c,e,f,i,j,k,l⟩
structure NW (lev:Nat) (ps:List T) (n:Nat) (w:yC) (B D g E:Nat) (d:DV) (rs:List Rr) (r:Nat) (u:yD) (c:Int):Prop where
 aw:AW lev ps n w B D g d rs
 bx:w.heap[E]? =yA (qp #[qc (yA ⟨D,0,yB⟩),r] TAt)
 z1:w.heap[E+1]? =yA (qp #[qY ⟨#[]⟩,qX qm 0] TRp)
 z2:w.heap[E+1+1]? =yA (qp #[u,qX qm c] TRp)
theorem NW.below {b:List T} {E r:Nat} {d:DV} {e:List Rr} {c:Int} (h:NW lev b n w B D g E d e r u c) (a:yM w w w'):NW lev b n w' B D g E d e r u c:=⟨h.aw.below a,hkeep h.bx a,hkeep h.z1 a,hkeep h.z2 a⟩
theorem zFr (lev n:Nat) (ps:List T) (B D g:Nat) (d:DV) (rs:List Rr) (r:Nat) (x:Rr) (hx:rs[r]? =yA x) (hr:r<d.m) (c:Int) (hc:c=0\/c=8) (w:yC) (a6:B<=w.heap.size) (h:AW lev ps n w B D g d rs):
  yG yK 257 #[.agg #[qc (yA ⟨D,0,yB⟩),r],qX qm c] w fun e w'=>e=qx (qg #[qh yH,.agg #[qY x.got,qX qm c]])/\AW lev ps n w' B D g d (rs.set r free)/\yM B w w'/\(∀k,k<w.heap.size->k≠g->w'.heap[k]? =w.heap[k]?):=by
 obtain⟨E,hE⟩:=zB w.heap.size;obtain⟨W,hW⟩:=zB (((w.alloc (qp #[qc (yA ⟨D,0,yB⟩),r] TAt)).alloc (qp #[qY ⟨#[]⟩,qX qm 0] TRp)).alloc (qp #[qY ⟨#[]⟩,qX qm c] TRp));have j:yM w w W:=by rw[<-hW];exact(((yR _ _).alloc (qPq _) _).alloc (by simp only[zA];omega) _).alloc (by simp only[zA];omega) _
 have N0:NW lev ps n W B D g E d rs r (qY ⟨#[]⟩) c:=⟨h.below j,
  by rw[<-hW,<-hE];exact(Lib.alloc_old _ _ _ (by simp only[zA];omega)).trans ((Lib.alloc_old _ _ _ (by simp only[zA];omega)).trans (zAh w _)),
  by rw[<-hW,<-hE,<-zA w (qp #[qc (yA ⟨D,0,yB⟩),r] TAt)];exact(Lib.alloc_old _ _ _ (by simp only[zA];omega)).trans (zAh _ _),
  by rw[<-hW,<-hE,show w.heap.size+1+1=((w.alloc (qp #[qc (yA ⟨D,0,yB⟩),r] TAt)).alloc (qp #[qY ⟨#[]⟩,qX qm 0] TRp)).heap.size from by simp only[zA]];exact zAh _ _⟩
 obtain⟨HS,H0⟩:=yU (fun w' hw=>qI6 lev n ps B D g d rs r hr w' hw) N0;have HB:=yT (yM B w W) (j.mono a6);have u:=yT ((∀k,k<w.heap.size->W.heap[k]? =w.heap[k]?)/\w.heap.size<=W.heap.size) ⟨fun k m=>j.block k m,j.size⟩;have HW:=zH hW;subst hE;have O:B<=w.heap.size:=a6;have a8:(((w.alloc (qp #[qc (yA ⟨D,0,yB⟩),r] TAt)).alloc (qp #[qY ⟨#[]⟩,qX qm 0] TRp)).alloc (qp #[qY ⟨#[]⟩,qX qm c] TRp))=W:=hW;have LG:=yT (∀q,AW lev ps n q B D g d rs->q.cell? ⟨g,r*7+5,yB⟩=yA (qY x.got)) (fun q h9=>by
  obtain⟨b0,o0,ha,hc⟩:=h9.own.rd r x hx;have ha:=qPv ha;have h1:g=b0:=qPs Addr.block ha;have h2:0=o0:=qPs Addr.off ha;have h3:=hc 5 qW;rw[<-h1,<-h2]at h3;rw[qQd]at h3;exact h3)
 have y:=qIa H0.out.bx;obtain⟨y0,y1,y2,y3⟩:=y;clear h j hW N0;have a9:¬c=0->c=8:=fun h0=>hc.resolve_left h0;clear hc;go_enter func257,ntmps257;go_wp2_with fail
 all_goals
  (with_reducible refine(HS.out _ H0.out.aw).mono ?_);rintro e w2 ⟨rfl,l⟩;have H2:=zH (H0.out.below l);have a4:=yT (yM B w w2) (HB.out.trans (l.mono (qP2 O HB.out.size)));have N:=yT ((∀k,k<w.heap.size->w2.heap[k]? =w.heap[k]?)/\w.heap.size<=w2.heap.size) ⟨fun k m=>(l.block k (qQx m u.out.2)).trans (u.out.1 k m),qP2 u.out.2 l.size⟩;have y5:=LG.out _ H2.out.aw;obtain⟨y6,y7,y8,y9⟩:=qIa H2.out.z2;obtain⟨z0,z1,_,_⟩:=qIa H2.out.bx;have G:=H2.out.z2;clear y0 y1 y2 y3 l H0;go_wp2_with fail;obtain⟨w3,i⟩:=zB (w2.setCells (w.heap.size+1+1) 0 [qY x.got]);rw[show w2.setCell ⟨w.heap.size+1+1,0,yB⟩ (qY x.got)=w3 from i];have b:∀k,k≠w.heap.size+1+1->w3.heap[k]? =w2.heap[k]? :=fun k m=>by rw[<-i];exact xH _ w2 _ _ k m
  have H3:=yT (NW lev ps n w3 B D g w.heap.size d rs r (qY x.got) c) ⟨H2.out.aw.far G qW qW qW qW b,(b _ za).trans H2.out.bx,(b _ za).trans H2.out.z1,by
   have h7:=xS [qY x.got] w2 (w.heap.size+1+1) 0 _ _ _ G;rw[show xO #[qY ⟨#[]⟩,qX qm c] 0 [qY x.got]= #[qY x.got,qX qm c]by simp[xO]]at h7;rw[<-i];exact h7⟩
  have P:=yT ((∀k,k<w.heap.size->w3.heap[k]? =w.heap[k]?)/\w.heap.size<=w3.heap.size) ⟨fun k m=>(b k za).trans (N.out.1 k m),by rw[<-i,xL];exact N.out.2⟩;have M:=yT (yM B w w3) (by rw[<-i];exact xA _ _ 0 a4.out za);(with_reducible refine(HS.out _ H3.out.aw).mono ?_);rintro e w4 ⟨rfl,s⟩;have z:=zH (H3.out.below s);have Z:=yT (yM B w w4) (M.out.trans (s.mono (qP2 O M.out.size)));have a1:=yT (∀k,k<w.heap.size->w4.heap[k]? =w.heap[k]?) fun k m=>(s.block k (qQx m P.out.2)).trans (P.out.1 k m);obtain⟨V,K,L,I⟩:=z.out.aw.set r hr free;obtain⟨a7,a⟩:=z.out.aw.row;obtain⟨q0,q1,q2,q3,q4,q5,q6⟩:=z.out.aw.at r x hx;have f0:=qH9 a (r*7);have f1:=qH9 a (r*7+1);have f2:=qH9 a (r*7+2);have f3:=qH9 a (r*7+3);have f4:=qH9 a (r*7+4);have f5:=qH9 a (r*7+5);have f6:=qH9 a (r*7+6);clear y5 y6 y7 y8 y9 z0 z1 G s;go_wp2_with fail;clear q0 q1 q2 q3 q4 q5 q6 f0 f1 f2 f3 f4 f5 f6;obtain⟨w5,o⟩:=zB (w4.setCells g (r*7) (LRr.cl free));have hne:∀k (cs:Array yD) (t:yE),w4.heap[k]? =yA (Obj.cells cs t (0,0))->t≠TRr->w5.heap[k]? =w4.heap[k]? :=fun k cs t m ht=>by
   rw[<-o];refine xH _ w4 g _ k fun e=>ht ?_;rw[e,a]at m;exact((qQ6 (qPv m)).2.1).symm
  have Y:=yT (∀k,k<w.heap.size->k≠g->w5.heap[k]? =w.heap[k]?) (fun k m a5=>(by rw[<-o];exact xH _ w4 g _ k a5:w5.heap[k]? =w4.heap[k]?).trans (a1.out k m));rw[o]at K L I;have N5:=(show NW lev ps n w5 B D g w.heap.size d (rs.set r free) r (qY x.got) c from⟨K,(hne _ _ _ z.out.bx qW).trans z.out.bx,(hne _ _ _ z.out.z1 qW).trans z.out.z1,(hne _ _ _ z.out.z2 qW).trans z.out.z2⟩);have H5:=zH (N5.below ((yR _ w5).drew));clear N5;have a2:=yT (yM B w w5.drew) (Z.out.trans L).drew;have LR:=yT (∀q:yC,q.heap[w.heap.size+1+1]? =yA (Obj.cells #[qY x.got,qX qm c] TRp (0,0))->(loadVar TRp ⟨w.heap.size+1+1,0,yB⟩).run yK q= .ok (.agg #[qY x.got,qX qm c]) q) fun q h9=>qIv h9;obtain⟨w6,H,R,F,X,f⟩:=qKy (u':=qY x.got) (v':=qX qm c) H5.out.z1 (by simp[Value.oneCell']);have H6:=yT (AW lev ps n w6 B D g d (rs.set r free)) (H5.out.aw.far H5.out.z1 qW qW qW qW f);have a0:=yT (yM B w w6) (a2.out.trans (F B za));have S:=zH (qIv R);have a3:=yT (∀k,k<w.heap.size->k≠g->w6.heap[k]? =w.heap[k]?) fun k m a5=>(f k za).trans (Y.out k m a5);have Z6:=zH ((f (w.heap.size+1+1) za).trans H5.out.z2);rw[show(((((((w4.setCell ⟨g,r*7,yB⟩ (qX qm 0)).setCell ⟨g,r*7+1,yB⟩ (qX qm 0)).setCell ⟨g,r*7+2,yB⟩ (qX qm 0)).setCell ⟨g,r*7+3,yB⟩ (qX qm 0)).setCell ⟨g,r*7+4,yB⟩ (qX qm 0)).setCell ⟨g,r*7+5,yB⟩ (qY ⟨#[]⟩)).setCell ⟨g,r*7+6,yB⟩ (qY ⟨#[]⟩))=w5 from o];obtain⟨E,hE⟩:=zB w.heap.size;rw[hE]at LR H5 H S Z6⊢;clear o K L I hne a b i V F X f R hE;refine zS [] (fun q=>q.heap[E+1+1]? =yA (Obj.cells #[qY x.got,qX qm c] TRp (0,0))) [0,0,3] 3<|zp [0,1]<|zt 25 (.agg #[qY x.got,qX qm c]) ((fun w hS=>zl 44 6 (LR.out w hS)) _ (H5.out.z2))<|zk 4 (qh yH)<|zn<|zw 2 yB (zr 44 5 25 (H)) (qy (qy (Z6.out)))<|zE<| ?_
  simp only[zP,zI,Act.put,qPx,qPw,qPy];go_wp2;refine qP5 (v:=qg #[qh yH,.agg #[qY x.got,qX qm c]]) ?_ rfl ?_
  .exact qIp (t:=4) (p:=5) rfl _ _ _ ⟨E+1,0,yB⟩ _ rfl S.out
  .exact⟨rfl,H6.out,a0.out,a3.out⟩
end Sk
namespace Sk
open Zr Sm Ix2
open Front (ival)
variable {w:yC} {B g n lev D:Nat}
theorem qNb {α:Type} {L:xV α} {e:yE} {c:Nat} {m:List α} (h:yx L w B e (yA ⟨g,0,yB⟩) n c m) (i:Nat) (hi:i<n) (x y:α) (K:m[i]? =yA x) (k:Nat) (H:k<L.k) (v:yD) (M:L.cl y=(L.cl x).set k v):
  yx L (w.setCells g (i*L.k+k) [v]) B e (yA ⟨g,0,yB⟩) n c (m.set i y):=by
 have b:=h.len;have r:(i+1)*L.k<=n*L.k:=qRp _ hi;rw[qQu,qRn]at r;have P:kN (Kit.flat L m)=n*L.k:=by rw[Kit.zBg,b]
 have d:m.set i x=m:=by
  apply qRt;intro j;rw[qSu];split
  .next e=>subst e;rw[qPr za,K]
  .rfl
 obtain⟨R,u⟩:=h;rcases u with⟨u,_⟩|⟨g',O,a,hv,l,G,f,o,I,z⟩
 .cases u
 .injection hv with ha hn q
  injection ha with ha
  injection ha with ha
  subst ha q;have N:n*L.k<=c*L.k:=qRp _ f;refine⟨by rw[Kit.zBg,qR2,b],qy ⟨g,c,xO a (i*L.k+k) [v],rfl,l,xS _ _ _ _ _ _ _ G,f,o,by rw[Kit.zP7];exact I,?_⟩⟩;apply qRt;intro j;have F:=Kit.qA3 (L:=L) m i y za j;have t:=Kit.qA3 (L:=L) m i x za j;rw[d,<-z,qSc,qS4]at t;rw[F,qSc,qS4,M,qSu,L.len];by_cases s:j<n*L.k
  .rw[qPr s];rw[qPr s]at t;by_cases p:j=i*L.k+k
   .subst p;have:=Kit.zWt [v] a (i*L.k+k) 0 zm (by simp only[qP4,qQy];omega);rw[qRi]at this;rw[this,qPr ⟨za,za⟩,qPr za,qPr H];rfl
   .rw[Kit.zM5 [v] a (i*L.k+k) j (by simp only[qP4,qQy];omega),t];by_cases q:i*L.k<=j/\j<i*L.k+L.k
    .rw[qPr q,qPr q,qPt za]
    .rw[qPt q,qPt q,<-z,qSc,qPr s,qS4]
  .rw[qPt s,qPt za,qQq za]
theorem AW.qJ {o:List T} {d:DV} {l:List Rr} (h:AW lev o n w B D g d l) (r:Nat) (s:r<d.m) (x y:Rr) (z:l[r]? =yA x) (k:Nat) (q:k<7) (v:yD) (F:LRr.cl y=(LRr.cl x).set k v):
  AW lev o n (w.setCells g (r*7+k) [v]) B D g d (l.set r y)/\yM B w (w.setCells g (r*7+k) [v])/\(∀(j:Nat) (f:Array yD) (t:yE),w.heap[j]? =yA (Obj.cells f t (0,0))->t≠TRr->(w.setCells g (r*7+k) [v]).heap[j]? =w.heap[j]?):=by
 have p:=qNb h.own r s x y z k q v F;obtain⟨f,m⟩:=h.row;have b:∀j,j≠g->(w.setCells g (r*7+k) [v]).heap[j]? =w.heap[j]? :=fun j i=>xH _ w g _ j i;have a:∀(j:Nat) (f:Array yD) (t:yE),w.heap[j]? =yA (Obj.cells f t (0,0))->t≠TRr->(w.setCells g (r*7+k) [v]).heap[j]? =w.heap[j]? :=fun j G t i u=>b j fun e=>u (by
  rw[e,m]at i;exact((qQ6 (qPv i)).2.1).symm)
 have c:B<=g:=h.own.block g rfl;exact⟨⟨(a D _ _ h.blk qW).trans h.blk,h.lo,h.rp,p,h.dm.far m qW qW b⟩,xA _ g _ (yR _ w) c,a⟩
theorem AW.qOo {j:List T} {w':yC} {d d':DV} {m:List Rr} (h:AW lev j n w B D g d m) (u:w'.heap[D]? =yA (qp d'.cl TDk)) (l:∀k,k≠D->w'.heap[k]? =w.heap[k]?) (q:d'.rp=d.rp) (x:d'.m=d.m) (p:d'.rc=d.rc) (o:Dm lev j n w d'):AW lev j n w' B D g d' m:=by
 refine⟨u,h.lo,q.trans h.rp,?_,o.far h.blk qW qW l⟩;rw[x,p];obtain⟨y,z⟩:=h.row;obtain⟨s,i⟩:=h.own;refine⟨s,?_⟩;rcases i with i|⟨g',f,b,hv,c,a,r⟩
 .exact qz i
 .refine qy ⟨g',f,b,hv,c,(l g' (fun e=> ?_)).trans a,r⟩;rw[e,h.blk]at a;have t:=(qQ6 (qPv a)).2.1;exact absurd t qW
end Sk
namespace Sk
open Hf Bt Zr Ch Sq Tn Sm Ix2 Sd
open Front (ival)
variable {w:yC} {r:Nat} {P:Program} {ρ:Operand->yD} {o:Oper} {t:yE} {x:Operand} {a:ByteArray}
structure GW (lev:Nat) (ps:List T) (n:Nat) (w:yC) (B D g E:Nat) (d:DV) (rs:List Rr) (r:Nat):Prop where
 aw:AW lev ps n w B D g d rs
 bx:w.heap[E]? =yA (qp #[qc (yA ⟨D,0,yB⟩),r] TAt)
 z1:w.heap[E+1]? =yA (qp #[qY ⟨#[]⟩,qX qm 0] TRp)
theorem GW.below {c n:Nat} {e:List T} {w':yC} {B D g E:Nat} {d:DV} {f:List Rr} (h:GW c e n w B D g E d f r) (b:yM w w w'):GW c e n w' B D g E d f r:=⟨h.aw.below b,hkeep h.bx b,hkeep h.z1 b⟩
theorem h_lt {α:Type} {l:List α} {x:α} (h:l[r]? =yA x):r<kN l:=(qSj.1 h).1
theorem qN2 {lo hi:Operand} {l h:Nat} (g:o.op= .slice t x (yA lo) (yA hi) yB) (i:ρ x=qY a) (f:ρ lo=qX qm (l:Int)) (e:ρ hi=qX qm (h:Int)) (b:P.underlying t=yA .string) (c:l<=h) (d:h<=a.size):
  (execOp ρ o).run P w= .ok (.value (qY (a.extract l h))) w:=by
 unfold execOp;simp only[g,i,f,e,qRs,Option.map_none];have j:(0:Int)<=(l:Int):=za
 have k:(l:Int)<=(h:Int):=za
 have m:(h:Int)<=(a.size:Int):=za
 simp[run_sliceAt_string,Instr.slice,qTo b,Instr.sliceBounds,run_sliceBound,b,j,k,m,Result.andThen,go_sem,c,d]
theorem qLp {t':yE} {y:Operand} {b:ByteArray} (c:o.op= .binOp .add t x y t') (d:ρ x=qY a) (e:ρ y=qY b) (h:a.size+b.size<=9223372036854775807):
  (execOp ρ o).run P w= .ok (.value (qY (a++b))) w:=by
 unfold execOp;simp only[c,d,e];simp[binOp,eqGuard,run_string_add_sum w a b h,Result.andThen,go_sem]
theorem qNm (f n:Nat) (b:List T) (B D g:Nat) (d:DV) (rs:List Rr) (r:Nat) (x:Rr) (hx:rs[r]? =yA x) (hr:r<d.m) (hb:x.b<n) (bx:n<=1000) (a:ByteArray) (hf:(qIi f b x.b).f<=100000) (hl:(qIi f b x.b).l=a.size) (ha:a.size<=100000) (ho:x.o<=100000000) (hm:x.n<=100000000) (hp:paT x.o x.n (qIi f b x.b).f a.size<=a.size) (ci:x.got.size<=100000000) (X:Nat) (PP:Ps f b n) (hX:kN b.flatten=X) (w:yC) (bu:B<=w.heap.size) (h:AW f b n w B D g d rs):
  yG yK 255 #[.agg #[qc (yA ⟨D,0,yB⟩),r],qY a] w fun e w'=>(x.b≠x.l->e=qx (qg #[qh yI,.agg #[qY ⟨#[]⟩,qX qm 0]])/\AW f b n w' B D g d (rs.set r ⟨1,x.o,x.n,x.b+1,x.l,x.got++a.extract (paF x.o (qIi f b x.b).f) (paT x.o x.n (qIi f b x.b).f a.size),⟨#[]⟩⟩)/\yM B w w'/\(∀k,k<w.heap.size->k≠g->w'.heap[k]? =w.heap[k]?))/\(x.b=x.l->e=qx (qg #[qh yH,.agg #[qY (x.got++a.extract (paF x.o (qIi f b x.b).f) (paT x.o x.n (qIi f b x.b).f a.size)),qX qm (if X<x.o+x.n then 8 else 0)]])/\AW f b n w' B D g d (rs.set r free)/\yM B w w'/\(∀k,k<w.heap.size->k≠g->w'.heap[k]? =w.heap[k]?)):=by
 obtain⟨E,hE⟩:=zB w.heap.size;obtain⟨W,hW⟩:=zB ((w.alloc (qp #[qc (yA ⟨D,0,yB⟩),r] TAt)).alloc (qp #[qY ⟨#[]⟩,qX qm 0] TRp));have a0:yM w w W:=by rw[<-hW];exact((yR _ _).alloc (qPq _) _).alloc (by rw[zA];omega) _
 have N0:GW f b n W B D g E d rs r:=⟨h.below a0,by rw[<-hW,<-hE];exact(Lib.alloc_old _ _ _ (by rw[zA];omega)).trans (zAh w _),by rw[<-hW,<-hE,<-zA w (qp #[qc (yA ⟨D,0,yB⟩),r] TAt)];exact zAh _ _⟩;obtain⟨HS,aq,HP⟩:=yV (fun w' hw=>qI6 f n b B D g d rs r hr w' hw) (fun w' hw=>qKv f n b B D g d rs r x hx hr hb bx w' hw) (fun w'=>qK6 (qIi f b x.b) x.o x.n hf za ho hm w');have LC:=yT (∀q,AW f b n q B D g d rs->_) fun q h9=>h9.at r x hx;have LA:=yT (∀q,GW f b n q B D g E d rs r->(loadVar TAt ⟨E,0,yB⟩).run yK q= .ok (.agg #[qc (yA ⟨D,0,yB⟩),r]) q) fun q h9=>qKf h9.bx;have LO:=yT (∀q,GW f b n q B D g E d rs r->(loadVar 3 ⟨g,r*7+1,yB⟩).run yK q= .ok (qX qm (x.o:Int)) q) fun q h9=>yw (h9.aw.at r x hx).2.1 zf zf;have LN:=yT (∀q,GW f b n q B D g E d rs r->(loadVar 3 ⟨g,r*7+2,yB⟩).run yK q= .ok (qX qm (x.n:Int)) q) fun q h9=>yw (h9.aw.at r x hx).2.2.1 zf zf;have H0:=zH N0;have HB:=yT (yM B w W) (a0.mono bu);have af:=yT ((∀k,k<w.heap.size->W.heap[k]? =w.heap[k]?)/\w.heap.size<=W.heap.size) ⟨fun k z=>a0.block k z,a0.size⟩;obtain⟨y0,y1,y2,y3⟩:=qIa H0.out.bx;obtain⟨en,a1⟩:=zB (qIi f b x.b);rw[a1]at aq HP;obtain⟨pf,ah⟩:=zB (paF x.o en.f);obtain⟨pt,V⟩:=zB (paT x.o x.n en.f en.l);rw[ah,V]at HP;have b8:B<=E:=za
 have HW:=zH hW;subst hE;have cf:((w.alloc (qp #[qc (yA ⟨D,0,yB⟩),r] TAt)).alloc (qp #[qY ⟨#[]⟩,qX qm 0] TRp))=W:=hW;clear h a0 hW N0;go_enter func255,ntmps255;go_wp2_with fail;(with_reducible refine(HS.out _ H0.out.aw).mono ?_);rintro e w2 ⟨rfl,S⟩;have H2:=zH (H0.out.below S);have az:=yT (yM B w w2) (HB.out.trans (S.mono (qP2 b8 HB.out.size)));have aa:=yT ((∀k,k<w.heap.size->w2.heap[k]? =w.heap[k]?)/\w.heap.size<=w2.heap.size) ⟨fun k z=>(S.block k (qQx z af.out.2)).trans (af.out.1 k z),qP2 af.out.2 S.size⟩;clear y0 y1 y2 y3 S H0;go_wp2;obtain⟨E,hE⟩:=zB w.heap.size;rw[hE]at LA LO LN H2 b8⊢;have H3:=zH (H2.out.below ((yR _ w2).drew));refine zS [10] (fun q=>GW f b n q B D g E d rs r) [0,1,0,4,8,16,0,64,128,256,546,1024,2048,2048,8191,32767] 16<|zu 2 14 (qc (yA ⟨g,r*7,yB⟩))<|zu 3 15 (qc (yA ⟨g,r*7,yB⟩))<|zu 4 16 (qc (yA ⟨g,r*7+1,yB⟩))<|zu 6 18 (qc (yA ⟨g,r*7,yB⟩))<|zu 7 19 (qc (yA ⟨g,r*7,yB⟩))<|zu 8 20 (qc (yA ⟨g,r*7+2,yB⟩))<|zy 5 17 (qX qm (x.o:Int)) (fun w hS=>zl 3 16 (LO.out w hS)) H3.out<|zy 9 21 (qX qm (x.n:Int)) (fun w hS=>zl 3 20 (LN.out w hS)) H3.out<|zp [0]<|zt 12 (.agg #[qc (yA ⟨D,0,yB⟩),r]) ((fun w hS=>zl 254 2 (LA.out w hS)) _ (H3.out))<|zn<|zx 1 13 256 #[.agg #[qc (yA ⟨D,0,yB⟩),r]] (aq.out _ H3.out.aw)<| ?_
 rintro e w4 ⟨rfl,u⟩;have H4:=zH (H3.out.below u);refine⟨_,rfl,qy (qy H4.out),?_⟩;refine zx 10 22 288 #[enV en,qX qm (x.o:Int),qX qm (x.n:Int)] (HP.out _)<| ?_
 rintro e w5 ⟨rfl,K⟩;have H5:=zH (H4.out.below K);refine⟨_,rfl,qy (qz zf),?_⟩;refine zp [11,12,13,14,15]<|zk 11 (qg #[pf,pt])<|zk 23 (zI pf)<|zk 24 (zI pt)<|zk 7 (zI pf)<|zk 8 (zI pt)<|zn<|zE<| ?_
 simp only[zP,zI,Act.put,qPx,qPw,qPy];have b6:pf<=pt:=by rw[<-ah,<-V];unfold paF paT;omega
 have bc:pt<=a.size:=by rw[<-V,<-a1,hl];exact hp
 obtain⟨m,ae⟩:=zB (x.got++a.extract pf pt);have av:x.got.size+(a.extract pf pt).size<=9223372036854775807:=by rw[qS1];omega
 go_wp2;have H6:=zH (H5.out.below ((yR _ w5).drew));have LG:=zH (yw (P:=yK) (t:=9) (H6.out.aw.at r x hx).2.2.2.2.2.1 zf zf);obtain⟨cb,ap⟩:=H6.out.aw.row;have ai:=Kit.zDs (P:=yK) (t:=9) (v:=qY m) (H6.out.aw.at r x hx).2.2.2.2.2.1 (qH9 ap _) zf rfl rfl;obtain⟨w7,a3⟩:=zB (w5.drew.setCells g (r*7+5) [qY m]);rw[show w5.drew.setCell ⟨g,r*7+5,yB⟩ (qY m)=w7 from a3]at ai;obtain⟨ak,ar,a5⟩:=H6.out.aw.qJ r hr x ⟨x.st,x.o,x.n,x.b,x.l,m,x.txt⟩ hx 5 qW (qY m) rfl;rw[a3]at ak ar a5;have H7:=yT (GW f b n w7 B D g E d (rs.set r ⟨x.st,x.o,x.n,x.b,x.l,m,x.txt⟩) r) ⟨ak,(a5 _ _ _ H6.out.bx qW).trans H6.out.bx,(a5 _ _ _ H6.out.z1 qW).trans H6.out.z1⟩;refine zS [] (fun _=>True) [0,1,2,4,0,0,0,112,136,511,1023,1535] 12<|zp [0,1,2,3,4,5,6,7,8,9,10]<|zk 25 (qc (yA ⟨g,r*7,yB⟩))<|zk 26 (qc (yA ⟨g,r*7,yB⟩))<|zk 27 (qc (yA ⟨g,r*7+5,yB⟩))<|zt 28 (qY x.got) (zl 9 27 LG.out)<|zk 29 (qY a)<|zk 30 (zI pf)<|zk 31 (zI pt)<|zt 32 (qY (a.extract pf pt)) (qN2 (t:=9) (x:= .tmp 29) (lo:= .tmp 30) (hi:= .tmp 31) rfl zf zf zf zf b6 bc)<|zt 33 (qY m) (ae▸qLp (t:=9) (x:= .tmp 28) (y:= .tmp 32) rfl zf zf av)<|zk 34 (qc (yA ⟨g,r*7,yB⟩))<|zk 35 (qc (yA ⟨g,r*7+5,yB⟩))<|zn<|zw 11 yB (zr 9 35 33 (ai)) (qy (qy trivial))<|zE<| ?_
 simp only[zP,zI,Act.put,qPx,qPw,qPy];have b7:=yT (yM B w w7) (by
  have b1:=az.out.size;have b2:=u.size;have b3:=K.size;have b4:w2.drew.heap.size=w2.heap.size:=rfl;exact(((az.out.drew.trans (u.mono za)).trans (K.mono za)).drew).trans ar)
 have b9:=yT ((∀k,k<w.heap.size->w5.heap[k]? =w.heap[k]?)/\w.heap.size<=w5.heap.size) ⟨fun k z=>(K.block k (qQx z (qP2 aa.out.2 u.size))).trans ((u.block k (qQx z aa.out.2)).trans (aa.out.1 k z)),qP2 aa.out.2 (qP2 u.size K.size)⟩;have bo:=yT (∀k,k<w.heap.size->k≠g->w7.heap[k]? =w.heap[k]?) (fun k z br=>(by rw[<-a3];exact xH _ w5.drew _ _ k br:w7.heap[k]? =w5.heap[k]?).trans (b9.out.1 k z));have bk:=yT (w.heap.size<=w7.heap.size) (by rw[<-a3,xL];exact b9.out.2);have ba:(rs.set r ⟨x.st,x.o,x.n,x.b,x.l,m,x.txt⟩)[r]? =yA ⟨x.st,x.o,x.n,x.b,x.l,m,x.txt⟩:=by
  rw[qSu,qPr rfl,qPr (by have:=h_lt hx;exact this)]
 obtain⟨bz,a7⟩:=H7.out.aw.row;have c7:=(H7.out.aw.at r _ ba).2.2.2.2.2.2;have f7:=qH9 a7 (r*7+6);obtain⟨a8,a6,a9⟩:=H7.out.aw.qJ r hr _ ⟨x.st,x.o,x.n,x.b,x.l,m,⟨#[]⟩⟩ ba 6 qW (qY ⟨#[]⟩) rfl;obtain⟨l,Y⟩:=zB (w7.setCells g (r*7+6) [qY ⟨#[]⟩]);rw[Y]at a8 a6 a9;rw[List.set_set]at a8;have N8:=(show GW f b n l B D g E d (rs.set r ⟨x.st,x.o,x.n,x.b,x.l,m,⟨#[]⟩⟩) r from⟨a8,(a9 _ _ _ H7.out.bx qW).trans H7.out.bx,(a9 _ _ _ H7.out.z1 qW).trans H7.out.z1⟩);have M8:=zH N8;have Z:=yT ((∀k,k<w.heap.size->k≠g->l.heap[k]? =w.heap[k]?)/\w.heap.size<=l.heap.size) ⟨fun k z br=>(by rw[<-Y];exact xH _ w7 _ _ k br:l.heap[k]? =w7.heap[k]?).trans (bo.out k z br),by rw[<-Y,xL];exact bk.out⟩;rw[hE]at Z;have bn:=yT (yM B w l) (b7.out.trans a6);have H8:=zH (N8.below ((yR _ l).drew));have bj:=yT (yM B w l.drew) (b7.out.trans a6).drew;have s:(rs.set r ⟨x.st,x.o,x.n,x.b,x.l,m,⟨#[]⟩⟩)[r]? =yA ⟨x.st,x.o,x.n,x.b,x.l,m,⟨#[]⟩⟩:=by
  rw[qSu,qPr rfl,qPr (h_lt hx)]
 obtain⟨L3,L4⟩:=yU (yw (P:=yK) (t:=3) (H8.out.aw.at r _ s).2.2.2.1 zf zf) (yw (P:=yK) (t:=3) (H8.out.aw.at r _ s).2.2.2.2.1 zf zf);have ao:=ae;clear ai a3 ak ar a5 ap a7 a8 a6 a9 N8 u K ae av b6 bc;go_wp2;rw[show w7.setCell ⟨g,r*7+6,yB⟩ (qY ⟨#[]⟩)=l from Y];clear c7 f7 Y;refine zS [] (fun _=>True) [0,1,2,4,0,16,32,64,136] 9<|zp [0,1,2,3,4,5,6,7,8]<|zk 39 (qc (yA ⟨g,r*7,yB⟩))<|zk 40 (qc (yA ⟨g,r*7,yB⟩))<|zk 41 (qc (yA ⟨g,r*7+3,yB⟩))<|zt 42 (qX qm (x.b:Int)) (zl 3 41 (L3.out))<|zk 43 (qc (yA ⟨g,r*7,yB⟩))<|zk 44 (qc (yA ⟨g,r*7,yB⟩))<|zk 45 (qc (yA ⟨g,r*7+4,yB⟩))<|zt 46 (qX qm (x.l:Int)) (zl 3 45 (L4.out))<|zk 47 (qh (yJ ((x.b:Int)=(x.l:Int))))<|zn<|zE<| ?_
 simp only[zP,zI,Act.put,qPx,qPw,qPy];obtain⟨v0,v1,v2,v3,v4,v5,v6⟩:=H8.out.aw.at r _ s;obtain⟨c6,j⟩:=H8.out.aw.row;by_cases hq:x.b=x.l
 .have bq:(x.b:Int)=(x.l:Int):=za
  obtain⟨cc,ac⟩:∃cc:Int,(if X<x.o+x.n then 8 else 0)=cc:=⟨_,rfl⟩;have ag:cc=0\/cc=8:=by rw[<-ac];split<;>simp
  obtain⟨b0,bh⟩:=yU (fun w' (hw:AW f b n w' B D g d (rs.set r ⟨x.st,x.o,x.n,x.b,x.l,m,⟨#[]⟩⟩))=>qLe f n X b PP hX d hw.dm.en hw.dm.ic x.o x.n ho hm w' hw.dm.idx) (fun w' (bw:B<=w'.heap.size) (hw:AW f b n w' B D g d (rs.set r ⟨x.st,x.o,x.n,x.b,x.l,m,⟨#[]⟩⟩))=>zFr f n b B D g d _ r _ s hr cc ag w' bw hw);rw[ac]at b0;clear ag;have O:¬(g=E+1):=fun e=>by
   have h1:=H8.out.z1;rw[<-e,j]at h1;exact absurd (qQ6 (qPv h1)).2.1 qW
  clear v0 v1 v2 v3 v4 v5 v6;go_wp2;have H9:=zH (H8.out.below ((yR _ l.drew).drew));have aj:=yT (yM B w l.drew.drew) bj.out.drew;refine zS [14,18] (fun q=>GW f b n q B D g E d (rs.set r ⟨x.st,x.o,x.n,x.b,x.l,m,⟨#[]⟩⟩) r) [0,0,2,4,8,0,32,64,128,0,512,1024,2048,4368,8193,16384,16384,131071,262143] 19<|zy 0 48 (.agg #[qc (yA ⟨D,0,yB⟩),r]) (fun w hS=>zl 254 2 (qKf hS.bx)) H9.out<|zp [1,2,3,4,5,6,7,8,9,10,11,12]<|zk 49 (zP E 0)<|zt 50 (zP D 0) ((fun w hS=>zl 252 49 (qJg hS.bx)) _ (H9.out))<|zk 51 (zP D 0)<|zt 52 d.v ((fun w hS=>zl 39 51 (ld7 hS.aw.blk)) _ (H9.out))<|zk 53 (qc (yA ⟨g,r*7,yB⟩))<|zk 54 (qc (yA ⟨g,r*7,yB⟩))<|zk 55 (qc (yA ⟨g,r*7+1,yB⟩))<|zt 56 (qX qm (x.o:Int)) ((fun w hS=>zl 3 55 (yw (hS.aw.at r _ s).2.1 zf zf)) _ (H9.out))<|zk 57 (qc (yA ⟨g,r*7,yB⟩))<|zk 58 (qc (yA ⟨g,r*7,yB⟩))<|zk 59 (qc (yA ⟨g,r*7+2,yB⟩))<|zt 60 (qX qm (x.n:Int)) ((fun w hS=>zl 3 59 (yw (hS.aw.at r _ s).2.2.1 zf zf)) _ (H9.out))<|zn<|zx 13 61 145 #[d.v,qX qm (x.o:Int),qX qm (x.n:Int)] (b0.out _ H9.out.aw)<| ?_
  rintro e w9 ⟨rfl,i⟩;have H:=zH (H9.out.below i);refine⟨_,rfl,qy (qy H.out),?_⟩;refine zx 14 62 257 #[.agg #[qc (yA ⟨D,0,yB⟩),r],qX qm cc] (bh.out _ (qP2 bu (qP2 aj.out.size i.size)) H.out.aw)<| ?_
  rintro e I ⟨rfl,L,N,c⟩;obtain⟨b5,ad,am,ab,au,F⟩:=qKy (u':=qY m) (v':=qX qm cc) ((c (E+1) (zAd H.out.z1) (fun e=>O e.symm)).trans H.out.z1) (by simp[Value.oneCell']);refine⟨_,rfl,qy (qz zf),?_⟩;refine zp [15,16,17]<|zk 63 (qh yH)<|zk 64 (.agg #[qY m,qX qm cc])<|zk 4 (qh yH)<|zn<|zw 18 yB (zr 44 5 64 (ad)) (qy (qz zf))<|zE<| ?_
  simp only[zP,zI,Act.put,qPx,qPw,qPy];go_wp2
  all_goals
   refine qP5 (v:=qg #[qh yH,.agg #[qY m,qX qm cc]]) ?_ rfl ?_
   .exact qIp (t:=4) (p:=5) rfl _ _ _ ⟨E+1,0,yB⟩ _ rfl (qIv am)
   .have ax:=L.far ((c (E+1) (zAd H.out.z1) (fun e=>O e.symm)).trans H.out.z1) qW qW qW qW F;rw[List.set_set]at ax;have bd:yM B w b5:=((aj.out.trans (i.mono (qP2 bu aj.out.size))).trans N).trans (ab B za);have e2:paT x.o x.n en.f a.size=pt:=by rw[<-V,<-a1,hl]
    refine⟨?_,ax,bd,fun k z br=>(F k za).trans ((c k (qQx z (qP2 Z.out.2 i.size)) br).trans ((i.block k (qQx z Z.out.2)).trans (Z.out.1 k z br)))⟩;rw[<-hq,a1,ah,e2,ao]
    first|rw[show cc=8 by rw[<-ac,qPr za]]|rw[show cc=0 by rw[<-ac,qPt za]]
 .have bq:¬((x.b:Int)=(x.l:Int)):=za
  have f0:=qH9 j (r*7);have f3:=qH9 j (r*7+3);obtain⟨z0,z1,z2,z3⟩:=qIa H8.out.z1;have O:¬(g=E+1):=fun e=>by
   have h1:=H8.out.z1;rw[<-e,j]at h1;exact absurd (qQ6 (qPv h1)).2.1 qW
  have ca:¬(E+1=g):=fun e=>O e.symm;have cg:(x.b:Int)<1000:=za
  have c8:(0:Int)<=(x.b:Int):=za
  simp only at v0 v1 v2 v3 v4 v5 v6;clear v1 v2 v4 v5 v6 HS aq HP LA LO LN LC;have cj:l.cell? ⟨g,r*7,yB⟩=yA (qX qm (x.st:Int)):=v0;have ck:l.cell? ⟨g,r*7+3,yB⟩=yA (qX qm (x.b:Int)):=v3;have cd:l.frozen? ⟨g,r*7,yB⟩=yI:=f0;have ce:l.frozen? ⟨g,r*7+3,yB⟩=yI:=f3;have cm:l.cell? ⟨E+1,0,yB⟩=yA (qY ⟨#[]⟩):=z0;have cn:l.cell? ⟨E+1,1,yB⟩=yA (qX qm 0):=z1;have co:l.frozen? ⟨E+1,0,yB⟩=yI:=z2;have cp:l.frozen? ⟨E+1,1,yB⟩=yI:=z3;go_wp2
  all_goals
   have A8:=M8.out.aw;obtain⟨ay,i,bb⟩:=A8.qJ r hr _ ⟨x.st,x.o,x.n,x.b+1,x.l,m,⟨#[]⟩⟩ s 3 qW (qX qm ((x.b:Int)+1)) rfl;obtain⟨w9,a4⟩:=zB (l.setCells g (r*7+3) [qX qm ((x.b:Int)+1)]);rw[a4,List.set_set]at ay;rw[a4]at i bb;obtain⟨L,N,c⟩:=ay.qJ r hr ⟨x.st,x.o,x.n,x.b+1,x.l,m,⟨#[]⟩⟩ ⟨1,x.o,x.n,x.b+1,x.l,m,⟨#[]⟩⟩ (by rw[qSu,qPr rfl,qPr (h_lt hx)]) 0 qW (qX qm 1) rfl;obtain⟨I,M⟩:=zB (w9.setCells g (r*7+0) [qX qm 1]);rw[M,List.set_set]at L;rw[M]at N c;have q8:l.heap[E+1]? =yA (Obj.cells #[qY ⟨#[]⟩,qX qm 0] TRp (0,0)):=H8.out.z1;have q9:=(bb _ _ _ q8 qW).trans q8;have an:=(c _ _ _ q9 qW).trans q9;obtain⟨b5,ad,am,ab,au,F⟩:=qKy (u':=qY ⟨#[]⟩) (v':=qX qm 0) an (by simp[Value.oneCell']);obtain⟨G,R⟩:=zB (I.setCells (E+1) 0 [qY ⟨#[]⟩,qX qm 0]);have bf:yM B w G:=by rw[<-R];exact xA _ _ 0 ((bn.out.trans i).trans N) za
   have a2:∀k,k≠E+1->G.heap[k]? =I.heap[k]? :=fun k z=>by rw[<-R];exact xH _ I _ _ k z
   have bg:G.heap[E+1]? =yA (Obj.cells #[qY ⟨#[]⟩,qX qm 0] TRp (0,0)):=by
    have h7:=xS [qY ⟨#[]⟩,qX qm 0] I (E+1) 0 _ _ _ an;rw[show xO #[qY ⟨#[]⟩,qX qm 0] 0 [qY ⟨#[]⟩,qX qm 0]= #[qY ⟨#[]⟩,qX qm 0]by simp[xO]]at h7;rw[<-R];exact h7
   have bp:=(L.far an qW qW qW qW a2).below ((yR _ G).drew);have bi:(loadVar TRp ⟨E+1,0,yB⟩).run yK G.drew= .ok (.agg #[qY ⟨#[]⟩,qX qm 0]) G.drew:=qIv bg;rw[show((((l.setCell ⟨g,r*7+3,yB⟩ (qX qm ((x.b:Int)+1))).setCell ⟨g,r*7,yB⟩ (qX qm 1)).setCell ⟨E+1,0,yB⟩ (qY ⟨#[]⟩)).setCell ⟨E+1,1,yB⟩ (qX qm 0))=G from by rw[<-R,<-M,<-a4];rfl];refine qP5 (v:=qg #[qh yI,.agg #[qY ⟨#[]⟩,qX qm 0]]) ?_ rfl ?_
   .exact qIp (t:=4) (p:=5) rfl _ _ _ ⟨E+1,0,yB⟩ _ rfl bi
   .refine⟨rfl,?_,bf.drew,fun k z br=>(a2 k za).trans ((by rw[<-M];exact xH _ w9 _ _ k br:I.heap[k]? =w9.heap[k]?).trans ((by rw[<-a4];exact xH _ l _ _ k br:w9.heap[k]? =l.heap[k]?).trans (Z.out.1 k z br)))⟩;have e2:paT x.o x.n en.f a.size=pt:=by rw[<-V,<-a1,hl]
    rw[e2,ao];exact bp
end Sk
namespace Sk
open Hf Bt Zr Sq Sm Ix2
variable {lev n o j X dec0 m l dec:Nat}
structure Dd where
 sh:xE
 dec:Nat
 r:Rr
 dn:Bool
 tx:ByteArray
 c:Int
def gT (b:List T) (x:Rr) (a:ByteArray):ByteArray:=x.got++a.extract (paF x.o (qH8 b x.b)) (paT x.o x.n (qH8 b x.b) a.size)
@[irreducible] def gets (b:List T) (X:Nat) (sh:xE) (dec:Nat) (x:Rr) (a:ByteArray):Dd:=
 if x.b=x.l then⟨sh,dec,free,yH,gT b x a,if X<x.o+x.n then 8 else 0⟩else⟨sh,dec,⟨1,x.o,x.n,x.b+1,x.l,gT b x a,⟨#[]⟩⟩,yI,⟨#[]⟩,0⟩
@[irreducible] noncomputable def deed (a:List T) (X:Nat) (sh:xE) (dec:Nat) (x:Rr):Dd:=
 if x.st=1 then
  if(xq sh (x.b:Int)).2.2=0 then gets a X (xq sh (x.b:Int)).2.1 dec x (xq sh (x.b:Int)).1
  else⟨sh,dec,⟨2,x.o,x.n,x.b,x.l,x.got,x.txt⟩,yI,⟨#[]⟩,0⟩
 else if x.st=2 then⟨sh,min (dec+1) 1099511627776,⟨3,x.o,x.n,x.b,x.l,x.got,xB (a.getD x.b [])⟩,yI,⟨#[]⟩,0⟩
 else gets a X (if(kJ sh (x.b:Int) x.txt).2.2=0 then(kJ sh (x.b:Int) x.txt).2.1 else sh) dec x x.txt
abbrev gP (ps:List T) (k:Nat):ByteArray:=xB (ps.getD k [])
theorem zX1 (a:List T) (k q:Nat) (d:k<kN a) (f:q<=kN (a.getD k [])):a.flatten.take (qH8 a k+q)=a.flatten.take (qH8 a k)++(a.getD k []).take q:=by
 have e:a.flatten=(a.take k).flatten++((a.getD k [])++(a.drop (k+1)).flatten):=by
  have b:a=a.take k++(a[k]::a.drop (k+1)):=by rw[List.getElem_cons_drop,qSa]
  have c:a.getD k []=a[k]:=by rw[qPz,qPu d];rfl
  rw[c]
  conv=>lhs;rw[b]
  rw[qR0,qSz]
 rw[e];unfold qH8;rw[List.take_length_add_append,List.take_left,qUn f]
theorem qNl (a:List T) (k o q:Nat) (b:k<kN a) (d:q<=kN (a.getD k [])):
  xB ((a.flatten.take (qH8 a k)).drop o)++(gP a k).extract (paF o (qH8 a k)) q=xB ((a.flatten.take (qH8 a k+q)).drop o):=by
 apply Rle.zQ6;have c:kN (a.flatten.take (qH8 a k))=qH8 a k:=by rw[qQh];have:=qJb a k;omega
 rw[Rle.qJ9,Rle.zI0,kF,kF,kF,zX1 a k q b d,List.drop_append,c];rfl
structure Wo (n:Nat) (sh:xE) (dec:Nat):Prop where
 room:(n:Int)<=sh.room
 cnt:kN sh.held=dec
structure WW (sh0:xE) (dec0 j l b e:Nat) (sh:xE) (dec:Nat):Prop where
 clk:sh.clock+(j:Int)<=sh0.clock+(b:Int)
 old:∀k,xu sh0 k->xu sh k
 new:∀k,j<=k->k<b->xu sh k
 cnt:kN sh.held+e=dec
 idle:(∀k,j<=k->k<=l->xu sh0 k)->dec=dec0
structure J (lev:Nat) (ps:List T) (n X:Nat) (sh0:xE) (dec0 o m j l:Nat) (sh:xE) (dec:Nat) (x:Rr):Prop where
 wk:Wk lev ps n X x j
 eo:x.o=o
 en:x.n=m
 el:x.l=l
 got:x.got=xB ((ps.flatten.take (qH8 ps x.b)).drop o)
 txt:x.st=3->x.txt=gP ps x.b
 si:kC (gP ps) n sh
 room:sh.room=sh0.room
 dm:dec<=1099511627776
 wo:Wo n sh0 dec0->sh0.clock+1001<=1099511627776->dec0<=1000->WW sh0 dec0 j l x.b (if x.st=3 then 1 else 0) sh dec/\(2<=x.st->¬xu sh x.b)
structure Fin (lev:Nat) (ps:List T) (n X:Nat) (sh0:xE) (dec0 j l:Nat) (sh:xE) (dec:Nat):Prop where
 si:kC (gP ps) n sh
 room:sh.room=sh0.room
 dm:dec<=1099511627776
 wo:Wo n sh0 dec0->sh0.clock+1001<=1099511627776->dec0<=1000->WW sh0 dec0 j l (l+1) 0 sh dec
def meas (x:Rr):Nat:=4*(x.l-x.b)+(3-x.st)
def Next (lev:Nat) (a:List T) (n X:Nat) (b:xE) (dec0 o m j l:Nat) (x:Rr) (q:Dd):Prop:=
 (q.dn=yI/\J lev a n X b dec0 o m j l q.sh q.dec q.r/\meas q.r<meas x)\/
 (q.dn=yH/\q.r=free/\q.tx=xB ((a.flatten.drop o).take m)/\q.c=(if X<o+m then 8 else 0)/\Fin lev a n X b dec0 j l q.sh q.dec)
theorem In.len {a:List T} (P:Ps lev a n) (h:In a n o j):j<kN a:=by rw[P.len];exact h.lt
theorem qJ5 {d:List T} (P:Ps lev d n) (y:kN d.flatten=X) {e:xE} {x:Rr} (h:Wk lev d n X x j) (g:x.o=o) (q:x.n=m) (w:x.l=l) (I:x.got=xB ((d.flatten.take (qH8 d x.b)).drop o))
  {sh:xE} {dec:Nat} (B:kC (gP d) n sh) (t:sh.room=e.room) (u:dec<=1099511627776) (wo:Wo n e dec0->e.clock+1001<=1099511627776->dec0<=1000->WW e dec0 j l (x.b+1) 0 sh dec):
  Next lev d n X e dec0 o m j l x (gets d X sh dec x (gP d x.b)):=by
 have z:x.b<kN d:=by rw[P.len];have:=h.b1;have:=h.lst.lt;omega
 have s:(gP d x.b).size=kN (d.getD x.b []):=x9 _;have N:=qI2 d x.b z;have L:=qJb d (x.b+1);have F:=h.lst.lo;have G:=h.lst.hi;have O:=h.fst.hi;have R:=h.m0;have S:=h.ox;have V:=qIq d (j:=j+1) (k:=x.b+1) (by have:=h.b0;omega) za;have M:=h.b1;have K:paT x.o x.n (qH8 d x.b) (gP d x.b).size<=kN (d.getD x.b []):=by rw[s];unfold paT;omega
 have p:gT d x (gP d x.b)=xB ((d.flatten.take (qH8 d x.b+paT x.o x.n (qH8 d x.b) (gP d x.b).size)).drop o):=by
  unfold gT;rw[I,<-g];exact qNl d x.b x.o _ z K
 unfold gets;by_cases i:x.b=x.l
 .rw[qPr i];refine qy ⟨rfl,rfl,?_,?_,B,t,u,fun a b c=> ?_⟩
  .show gT d x _=_;rw[p,s];congr 1;rw[<-i]at F G;rw[<-g,<-q];rcases qP8 X (x.o+x.n)with H|H
   .have f:qH8 d x.b+paT x.o x.n (qH8 d x.b) (kN (d.getD x.b []))=X:=by unfold paT;omega
    rw[f,<-y,qS7,qQc (by rw[qQo,y];omega)]
   .have f:qH8 d x.b+paT x.o x.n (qH8 d x.b) (kN (d.getD x.b []))=x.o+x.n:=by unfold paT;omega
    rw[f,List.drop_take];congr 1;omega
  .show(if X<x.o+x.n then(8:Int)else 0)=_;rw[g,q]
  .have:=wo a b c;rw[i,w]at this;exact this
 .rw[qPt i];have W:=qIq d (j:=x.b+1) (k:=x.l) za (by have:=P.len;have:=h.lst.lt;omega);have f:qH8 d x.b+paT x.o x.n (qH8 d x.b) (gP d x.b).size=qH8 d (x.b+1):=by rw[s];unfold paT;omega
  rw[f]at p;refine qz ⟨rfl,⟨⟨qPq _,(by decide:(1:Nat)<=3),h.m0,h.m1,h.ox,h.fst,h.lst,by show j<=x.b+1;have:=h.b0;omega,by show x.b+1<=x.l;omega,?_,rfl⟩,g,q,w,p,fun r=>absurd (show(1:Nat)=3 from r) qW,B,t,u,fun a b c=>⟨wo a b c,fun r=>absurd (show(2:Nat)<=1 from r) qW⟩⟩,?_⟩
  .show(gT d x _).size=qH8 d (x.b+1)-x.o;rw[p,x9,qQo,qQh,g];omega
  .show 4*(x.l-(x.b+1))+(3-1)<4*(x.l-x.b)+(3-x.st);have:=h.s3;omega
theorem J.next {p:List T} (P:Ps lev p n) (z:kN p.flatten=X) {G:xE} {sh:xE} {x:Rr} (h:J lev p n X G dec0 o m j l sh dec x):
  Next lev p n X G dec0 o m j l x (deed p X sh dec x):=by
 have L:x.b<n:=by have:=h.wk.b1;have:=h.wk.lst.lt;omega
 have hn:=P.many;have f:=h.wk.b0;have V:=h.wk.b1;have W:=h.el;unfold deed;by_cases H:x.st=1
 .rw[qPr H];by_cases i:(xq sh (x.b:Int)).2.2=0
  .rw[qPr i];obtain⟨N,u,w,y,s,t,O⟩:=h.si.take L i;rw[N];refine qJ5 P z h.wk h.eo h.en h.el h.got u (w.trans h.room) h.dm fun a b c=> ?_;obtain⟨g,w2⟩:=h.wo a b c;have c1:=g.clk;have c2:=g.cnt;rw[qPt za]at c2;refine⟨by rw[y];omega,fun k q=>(s k).2 (g.old k q),fun k q M=>(s k).2 ?_,za,g.idle⟩;by_cases d:k=x.b
   .rw[d];exact t
   .exact g.new k q za
  .rw[qPt i];refine qz ⟨rfl,⟨⟨(by decide:(1:Nat)<=2),(by decide:(2:Nat)<=3),h.wk.m0,h.wk.m1,h.wk.ox,h.wk.fst,h.wk.lst,h.wk.b0,h.wk.b1,h.wk.got,?_⟩,h.eo,h.en,h.el,h.got,fun B=>absurd (show(2:Nat)=3 from B) qW,h.si,h.room,h.dm,fun a b c=> ?_⟩,?_⟩
   .have:=h.wk.txt;rw[qPt za]at this;exact this
   .obtain⟨g,w2⟩:=h.wo a b c;have c1:=g.clk;have c2:=g.cnt;rw[qPt za]at c2;refine⟨⟨c1,g.old,g.new,c2,g.idle⟩,fun _=> ?_⟩;rcases Cache.qKn h.si.rgt (x.b:Int)with⟨F,_⟩|⟨_,r|r⟩
    .exact absurd F i
    .exact Cache.qNk r
    .have:sh.clock=1099511627776:=r;omega
   .show 4*(x.l-x.b)+(3-2)<4*(x.l-x.b)+(3-x.st);omega
 .rw[qPt H];by_cases I:x.st=2
  .rw[qPr I];refine qz ⟨rfl,⟨⟨(by decide:(1:Nat)<=3),(by decide:(3:Nat)<=3),h.wk.m0,h.wk.m1,h.wk.ox,h.wk.fst,h.wk.lst,h.wk.b0,h.wk.b1,h.wk.got,?_⟩,h.eo,h.en,h.el,h.got,fun _=>rfl,h.si,h.room,by show min _ _<=_;omega,fun a b c=> ?_⟩,?_⟩
   .show(gP p x.b).size=_;rw[qPr rfl];exact x9 _
   .obtain⟨g,w2⟩:=h.wo a b c;have c2:=g.cnt;rw[qPt za]at c2;have e:=w2 za;have S:kN sh.held<=64:=by have Y:=h.si.rgt.2.2.2.2.1;have Z:=h.si.rgt.2.1;omega
    refine⟨⟨g.clk,g.old,g.new,?_,fun B=>absurd (g.old x.b (B x.b f za)) e⟩,fun _=>e⟩;refine Eq.trans (b:=kN sh.held+1) rfl ?_;rw[show kN sh.held=dec by omega];exact(qTj za).symm
   .show 4*(x.l-x.b)+(3-3)<4*(x.l-x.b)+(3-x.st);omega
  .rw[qPt I];have K:x.st=3:=by have:=h.wk.s1;have:=h.wk.s3;omega
   have R:=h.txt K;rw[R];by_cases i:(kJ sh (x.b:Int) (gP p x.b)).2.2=0
   .rw[qPr i];obtain⟨u,w,y,s⟩:=h.si.keep L i;refine qJ5 P z h.wk h.eo h.en h.el h.got u (w.trans h.room) h.dm fun a b c=> ?_;obtain⟨g,w2⟩:=h.wo a b c;have c1:=g.clk;have c2:=g.cnt;rw[qPr K]at c2;obtain⟨t,O⟩:=s (by rw[h.room];exact a.room) (w2 za);refine⟨by rw[y];omega,fun k q=>(t k).2 (qy (g.old k q)),fun k q M=>(t k).2 ?_,za,g.idle⟩;by_cases d:k=x.b
    .exact qz d
    .exact qy (g.new k q za)
   .rw[qPt i];refine qJ5 P z h.wk h.eo h.en h.el h.got h.si h.room h.dm fun a b c=> ?_;obtain⟨g,w2⟩:=h.wo a b c;have c1:=g.clk;rcases Cache.qKs h.si.rgt (x.b:Int) za (gP p x.b)with⟨F,_⟩|⟨_,r⟩
    .exact absurd F i
    .have:sh.clock=1099511627776:=r;omega
theorem J.start {f:List T} {sh:xE} (y:kC (gP f) n sh) (r:dec<=1099511627776) (u:0<m) (w:m<1048576) (x:o<X) (g:In f n o j) (q:In f n (o+min m (X-o)-1) l) (z:kN f.flatten=X) (P:Ps lev f n):
  J lev f n X sh dec o m j l sh dec ⟨1,o,m,j,l,⟨#[]⟩,⟨#[]⟩⟩:=by
 have d:j<=l:=by
  rcases qP8 l j with h|h
  .have s:=qIq f (j:=l+1) (k:=j) h (by have:=In.len P g;omega);have:=g.lo;have:=q.hi;omega
  .exact h
 have i:=g.lo;have e:(f.flatten.take (qH8 f j)).drop o=[]:=by
  apply qQ0;rw[qQo,qQh];omega
 refine⟨⟨qPq _,(by decide:(1:Nat)<=3),u,w,x,g,q,qPq _,d,?_,rfl⟩,rfl,rfl,rfl,?_,fun p=>absurd (show(1:Nat)=3 from p) qW,y,rfl,r,fun a b c=>⟨⟨Int.le_refl _,fun k t=>t,fun k s i=> ?_,a.cnt,fun _=>rfl⟩,fun p=>absurd (show(2:Nat)<=1 from p) qW⟩⟩
 .show 0=qH8 f j-o;omega
 .show(⟨#[]⟩:ByteArray)=_;rw[e];exact(Rle.qCh [])
 .have i:k<j:=i;omega
end Sk
namespace Sk
open Hf Bt Zr Ch Sq Tn Bk Sm Ix2 Sd
open Front (ival)
variable {w w0 W W' w':yC} {D g z lev n B E r R k pk:Nat} {a b c d e f c' d' e' u v:yD} {cs:Array yD} {t:yE} {pa:Option yF}
def Post (lev:Nat) (h:List T) (n B D g:Nat) (d:DV) (i:List Rr) (r:Nat) (q:Dd) (w:yC) (e:Ending) (w':yC):Prop:=
 ∃d',e=qx (qg #[qh q.dn,.agg #[qY q.tx,qX qm q.c]])/\AW lev h n w' B D g d' (i.set r q.r)/\d'.sh=q.sh/\d'.dec=q.dec/\d'.a=d.a/\d'.m=d.m/\yM B w w'/\(∀k,k<w.heap.size->k≠g->k≠D->w'.heap[k]? =w.heap[k]?)
theorem qNy (lev n X:Nat) (i:List T) (B D g:Nat) (d:DV) (o:List Rr) (r j:Nat) (x:Rr) (O:o[r]? =yA x) (L:r<d.m) (P:Ps lev i n) (I:kN i.flatten=X) (h:Wk lev i n X x j) (w:yC) (H:B<=w.heap.size) (N:AW lev i n w B D g d o):
  yG yK 255 #[.agg #[qc (yA ⟨D,0,yB⟩),r],qY (gP i x.b)] w (Post lev i n B D g d o r (gets i X d.sh d.dec x (gP i x.b)) w):=by
 have G:x.b<kN i:=by rw[P.len];have:=h.b1;have:=h.lst.lt;omega
 have M:(gP i x.b).size=kN (i.getD x.b []):=x9 _;have l:=qI2 i x.b G;have Z:=qJb i (x.b+1);have h3:=h.lst.lo;have h4:=h.lst.hi;have h5:=h.fst.hi;have h6:=h.m0;have h7:=h.ox;have h8:=qIq i (j:=j+1) (k:=x.b+1) (by have:=h.b0;omega) za;have Y:=P.all;have a1:=h.m1;have a0:=h.got;have K:=qNm lev n i B D g d o r x O L (by rw[<-P.len];exact G) P.many (gP i x.b) (by show qH8 i x.b<=_;omega) (by show(i.getD x.b []).length=_;omega) za za za (by show paT x.o x.n (qH8 i x.b) _<=_;rw[M];unfold paT;omega) za X P I w H N;refine K.mono ?_;rintro e w' ⟨S,V⟩;unfold gets;by_cases m:x.b=x.l
 .obtain⟨p,q,s,y⟩:=V m;rw[qPr m];exact⟨d,p,q,rfl,rfl,rfl,rfl,s,fun k l F _=>y k l F⟩
 .obtain⟨p,q,s,y⟩:=S m;rw[qPt m];exact⟨d,p,q,rfl,rfl,rfl,rfl,s,fun k l F _=>y k l F⟩
theorem qOe {g:yD} (h:w.heap[D]? =yA (qp #[a,b,c,d,e,f,g] TDk)) (m:∀z∈[c',d',e'],z.oneCell'=yH):
  (storeVar TSf ⟨D,2,yB⟩ (.agg #[c',d',e'])).run yK w= .ok () (w.setCells D 2 [c',d',e'])/\(w.setCells D 2 [c',d',e']).heap[D]? =yA (qp #[a,b,c',d',e',f,g] TDk)/\(∀B,B<=D->yM B w (w.setCells D 2 [c',d',e']))/\(∀k,k≠D->(w.setCells D 2 [c',d',e']).heap[k]? =w.heap[k]?):=by
 obtain⟨c0,c1,c2,c3,c4,c5,x⟩:=qH7 h;have i:=qSl (P:=yK) w D 2 TSf #[c',d',e'] (fun j p=>by
  have s:j<3:=p;refine⟨?_,qH9 h _⟩;obtain rfl|rfl|rfl:j=0\/j=1\/j=2:=za
  .rw[show 2+0=2 from rfl,c2];rfl
  .rw[show 2+1=3 from rfl,c3];rfl
  .rw[show 2+2=4 from rfl,c4];rfl) zf (by simpa using m)
 have l:=xS [c',d',e'] w D 2 _ _ _ h;rw[show xO #[a,b,c,d,e,f,g] 2 [c',d',e']= #[a,b,c',d',e',f,g]by simp[xO]]at l;exact⟨i,l,fun B o=>xA _ D 2 (yR _ w) o,fun k q=>xH _ w D 2 k q⟩
theorem qK9 {g:yD} (h:w.heap[D]? =yA (qp #[a,b,c,d,e,f,g] TDk)):(loadVar TSf ⟨D,2,yB⟩).run yK w= .ok (.agg #[c,d,e]) w:=by
 obtain⟨c0,c1,c2,c3,c4,c5,i⟩:=qH7 h;simp[loadVar,go_sem,c2,c3,c4]
abbrev ZSf:Array yD:= #[qX qm 0,qX qm 0,qZ yB 0 0]
theorem qOt (h:w.heap[z]? =yA (qp #[a,b,c] TSf)) (l:∀v∈[c',d',e'],v.oneCell'=yH):
  (storeVar TSf ⟨z,0,yB⟩ (.agg #[c',d',e'])).run yK w= .ok () (w.setCells z 0 [c',d',e'])/\(w.setCells z 0 [c',d',e']).heap[z]? =yA (qp #[c',d',e'] TSf)/\(∀B,B<=z->yM B w (w.setCells z 0 [c',d',e']))/\(∀k,k≠z->(w.setCells z 0 [c',d',e']).heap[k]? =w.heap[k]?):=by
 have d:=qSl (P:=yK) w z 0 TSf #[c',d',e'] (fun j o=>by
  have q:j<3:=o;refine⟨?_,qH9 h _⟩;obtain rfl|rfl|rfl:j=0\/j=1\/j=2:=za
  .simp[yQ,h]
  .simp[yQ,h]
  .simp[yQ,h]) zf (by simpa using l)
 have i:=xS [c',d',e'] w z 0 _ _ _ h;rw[show xO #[a,b,c] 0 [c',d',e']= #[c',d',e']by simp[xO]]at i;exact⟨d,i,fun B m=>xA _ z 0 (yR _ w) m,fun k p=>xH _ w z 0 k p⟩
structure LW (lev:Nat) (ps:List T) (n:Nat) (w0 W:yC) (B D g E:Nat) (d:DV) (rs:List Rr) (r:Nat):Prop where
 gw:GW lev ps n W B D g E d rs r
 bl:yM B w0 W
 sz:E+2<=W.heap.size
 be:B<=E
 kp:∀k,k<E->W.heap[k]? =w0.heap[k]?
theorem LW.below {j:List T} {d:DV} {l:List Rr} (h:LW lev j n w0 W B D g E d l r) (i:yM W W W'):LW lev j n w0 W' B D g E d l r:=
 ⟨h.gw.below i,h.bl.trans (i.mono (by have:=h.sz;have:=h.be;omega)),qP2 h.sz i.size,h.be,fun k m=>(i.block k (by have:=h.sz;omega)).trans (h.kp k m)⟩
theorem LW.al {i:List T} {d:DV} {j:List Rr} (h:LW lev i n w0 W B D g E d j r) (o:Obj):LW lev i n w0 (W.alloc o) B D g E d j r:=h.below ((yR _ _).alloc (qPq _) _)
structure TW (lev:Nat) (ps:List T) (n:Nat) (w0 W:yC) (B D g E:Nat) (d:DV) (rs:List Rr) (r z:Nat) (c:xE) (pa:Option yF) (pk:Nat):Prop where
 lw:LW lev ps n w0 W B D g E d rs r
 zz:W.heap[z]? =yA (qp #[qX qm c.room,qX qm c.clock,qZ pa (kN c.held) pk] TSf)
 ze:E+2<=z
 sh:kH W c pa pk
 sx:kL W (kN c.held) pa pk
theorem qN0 {f:Nat×Nat} {c:xE} {a:Option yF} (h:kH w c a k) (i:kL w (kN c.held) a k) (j:w.heap[R]? =yA (qp cs t f)) (hne:THd≠t) (l:∀k,k≠R->w'.heap[k]? =w.heap[k]?):kH w' c a k/\kL w' (kN c.held) a k:=
 ⟨⟨qI3.2 (qJm (qI3.1 h.src) i.ty j hne l),h.nil,h.wf⟩,i.cap,qJk i.ty j hne l⟩
theorem qKz {a:Option yF} (h:kL w n a k) (i:yM w w w'):kL w' n a k:=⟨h.cap,Ty.below h.ty i⟩
theorem LW.put {j:List T} {d:DV} {l:List Rr} {c:xE} (h:LW lev j n w0 W B D g E d l r) (m:W.heap[z]? =yA (qp ZSf TSf)) (p:E+2<=z) (F:kH W c pa pk) (G:kL W (kN c.held) pa pk):
  (storeVar TSf ⟨z,0,yB⟩ (.agg #[qX qm c.room,qX qm c.clock,qZ pa (kN c.held) pk])).run yK W= .ok () (W.setCells z 0 [qX qm c.room,qX qm c.clock,qZ pa (kN c.held) pk])/\
   LW lev j n w0 (W.setCells z 0 [qX qm c.room,qX qm c.clock,qZ pa (kN c.held) pk]) B D g E d l r/\TW lev j n w0 (W.setCells z 0 [qX qm c.room,qX qm c.clock,qZ pa (kN c.held) pk]) B D g E d l r z c pa pk:=by
 obtain⟨q,s,x,i⟩:=qOt (c':=qX qm c.room) (d':=qX qm c.clock) (e':=qZ pa (kN c.held) pk) m (by simp[Value.oneCell']);have o:LW lev j n w0 (W.setCells z 0 [qX qm c.room,qX qm c.clock,qZ pa (kN c.held) pk]) B D g E d l r:=
  ⟨⟨h.gw.aw.far m qW qW qW qW i,(i E za).trans h.gw.bx,(i (E+1) za).trans h.gw.z1⟩,h.bl.trans (x B (by have:=h.be;omega)),by rw[xL];exact h.sz,h.be,fun k y=>(i k za).trans (h.kp k y)⟩
 obtain⟨s1,s2⟩:=qN0 F G m qW i;exact⟨q,o,o,s,p,s1,s2⟩
def DV.shelf (d:DV) (c:xE) (pa:Option yF) (pk:Nat):DV:=⟨d.a,d.ip,d.n,d.ic,c,pa,pk,d.rp,d.m,d.rc,d.dec⟩
theorem TW.lay {m:List T} {d:DV} {p:List Rr} {c:xE} (h:TW lev m n w0 W B D g E d p r z c pa pk) (q:kC (gP m) n c):
  (storeVar TSf ⟨D,2,yB⟩ (.agg #[qX qm c.room,qX qm c.clock,qZ pa (kN c.held) pk])).run yK W= .ok () (W.setCells D 2 [qX qm c.room,qX qm c.clock,qZ pa (kN c.held) pk])/\
   GW lev m n (W.setCells D 2 [qX qm c.room,qX qm c.clock,qZ pa (kN c.held) pk]) B D g E (d.shelf c pa pk) p r/\yM B w0 (W.setCells D 2 [qX qm c.room,qX qm c.clock,qZ pa (kN c.held) pk])/\E+2<=(W.setCells D 2 [qX qm c.room,qX qm c.clock,qZ pa (kN c.held) pk]).heap.size/\
   (∀k,k<E->k≠D->(W.setCells D 2 [qX qm c.room,qX qm c.clock,qZ pa (kN c.held) pk]).heap[k]? =w0.heap[k]?):=by
 have o:=h.lw.gw.aw.blk;unfold DV.cl at o;obtain⟨x,y,F,l⟩:=qOe (c':=qX qm c.room) (d':=qX qm c.clock) (e':=qZ pa (kN c.held) pk) o (by simp[Value.oneCell']);have b:E≠D:=fun e=>by
  have j:=h.lw.gw.bx;rw[e,h.lw.gw.aw.blk]at j;exact absurd (qQ6 (qPv j)).2.1 qW
 have a:E+1≠D:=fun e=>by
  have j:=h.lw.gw.z1;rw[e,h.lw.gw.aw.blk]at j;exact absurd (qQ6 (qPv j)).2.1 qW
 have i:=h.lw.gw.aw.dm;refine⟨x,⟨h.lw.gw.aw.qOo (d':=d.shelf c pa pk) y l rfl rfl rfl ⟨i.en,i.ic,i.idx,i.inil,h.sh,h.sx.cap,q.rgt,q.held,i.m1,i.m8,i.rc,i.dec,i.tI,h.sx.ty⟩,(l E b).trans h.lw.gw.bx,(l (E+1) a).trans h.lw.gw.z1⟩,h.lw.bl.trans (F B h.lw.gw.aw.lo),by rw[xL];exact h.lw.sz,fun k G s=>(l k s).trans (h.lw.kp k G)⟩
theorem qL9 {m:List T} {d:DV} {o:List Rr} (h:AW lev m n w B D g d o) (i:w.heap[k]? =yA (qp cs t)) (l:t≠TRr):k≠g:=fun e=>by
 obtain⟨p,j⟩:=h.row;rw[e,j]at i;exact l (qQ6 (qPv i)).2.1.symm
theorem qKk {l:List T} {d:DV} {m:List Rr} (h:AW lev l n w B D g d m) (i:w.heap[k]? =yA (qp cs t)) (j:t≠TDk):k≠D:=fun e=>by
 rw[e,h.blk]at i;exact j (qQ6 (qPv i)).2.1.symm
theorem qLt (h:w.heap[B]? =yA (qp #[a,b,c] t)):w.cell? ⟨B,0,yB⟩=yA a/\w.cell? ⟨B,1,yB⟩=yA b/\w.cell? ⟨B,2,yB⟩=yA c:=
 ⟨by simp[yQ,h],by simp[yQ,h],by simp[yQ,h]⟩
theorem LW.start {l:List T} {d:DV} {m:List Rr} (h:AW lev l n w B D g d m) (r:Nat) (j:B<=w.heap.size):
  LW lev l n w ((w.alloc (qp #[qc (yA ⟨D,0,yB⟩),r] TAt)).alloc (qp #[qY ⟨#[]⟩,qX qm 0] TRp)) B D g w.heap.size d m r:=by
 have i:yM w w ((w.alloc (qp #[qc (yA ⟨D,0,yB⟩),r] TAt)).alloc (qp #[qY ⟨#[]⟩,qX qm 0] TRp)):=((yR _ _).alloc (qPq _) _).alloc (by rw[zA];omega) _;exact⟨⟨h.below i,(Lib.alloc_old _ _ _ (by rw[zA];omega)).trans (zAh w _),by rw[<-zA w (qp #[qc (yA ⟨D,0,yB⟩),r] TAt)];exact zAh _ _⟩,i.mono j,by rw[zA,zA];omega,j,fun k o=>i.block k o⟩
theorem LW.far {l:List T} {d:DV} {m:List Rr} {f:Nat×Nat} (h:LW lev l n w0 W B D g E d m r) (y:W.heap[R]? =yA (qp cs t f)) (F:E+2<=R) (p:TEn≠t) (q:THd≠t) (s:TRr≠t) (x:TDk≠t) (i:∀k,k≠R->W'.heap[k]? =W.heap[k]?) (j:∀D,D<=R->yM D W W'):LW lev l n w0 W' B D g E d m r:=
 ⟨⟨h.gw.aw.far y p q s x i,(i E za).trans h.gw.bx,(i (E+1) za).trans h.gw.z1⟩,h.bl.trans (j B (by have:=h.be;omega)),qP2 h.sz (j B (by have:=h.be;omega)).size,h.be,fun k o=>(i k za).trans (h.kp k o)⟩
structure FW (lev:Nat) (ps:List T) (n:Nat) (w0 W:yC) (B D g E:Nat) (d:DV) (rs:List Rr) (u v:yD):Prop where
 aw:AW lev ps n W B D g d rs
 z1:W.heap[E+1]? =yA (qp #[u,v] TRp)
 bl:yM B w0 W
 be:B<=E
 kp:∀k,k<E->k≠g->k≠D->W.heap[k]? =w0.heap[k]?
theorem FW.of {i:List T} {d:DV} {j:List Rr} (h:LW lev i n w0 W B D g E d j r):FW lev i n w0 W B D g E d j (qY ⟨#[]⟩) (qX qm 0):=⟨h.gw.aw,h.gw.z1,h.bl,h.be,fun k l _ _=>h.kp k l⟩
theorem FW.qJ {l:List T} {d:DV} {i:List Rr} (h:FW lev l n w0 W B D g E d i u v) (r:Nat) (F:r<d.m) (x y:Rr) (G:i[r]? =yA x) (k:Nat) (s:k<7) (a:yD) (H:LRr.cl y=(LRr.cl x).set k a):FW lev l n w0 (W.setCells g (r*7+k) [a]) B D g E d (i.set r y) u v:=by
 obtain⟨o,p,q⟩:=h.aw.qJ r F x y G k s a H;exact⟨o,(q _ _ _ h.z1 qW).trans h.z1,h.bl.trans p,h.be,fun j I m K=>(xH _ W g _ j m).trans (h.kp j I m K)⟩
theorem FW.put {l:List T} {d:DV} {m:List Rr} (h:FW lev l n w0 W B D g E d m u v) (u' v':yD):FW lev l n w0 (W.setCells (E+1) 0 [u',v']) B D g E d m u' v':=by
 have j:=xS [u',v'] W (E+1) 0 _ _ _ h.z1;rw[show xO #[u,v] 0 [u',v']= #[u',v']by simp[xO]]at j;have i:∀k,k≠E+1->(W.setCells (E+1) 0 [u',v']).heap[k]? =W.heap[k]? :=fun k i=>xH _ W _ 0 k i;exact⟨h.aw.far h.z1 qW qW qW qW i,j,h.bl.trans (xA _ _ 0 (yR _ _) (by have:=h.be;omega)),h.be,fun k o p q=>(i k za).trans (h.kp k o p q)⟩
theorem FW.post {l:List T} {d i:DV} {m j:List Rr} {q:Dd} (h:FW lev l n w0 W B D g w0.heap.size d m (qY q.tx) (qX qm q.c)) (y:m=j.set r q.r) (o:d.sh=q.sh) (p:d.dec=q.dec) (s:d.a=i.a) (x:d.m=i.m):Post lev l n B D g i j r q w0 (qx (qg #[qh q.dn,.agg #[qY q.tx,qX qm q.c]])) W:=
 ⟨d,rfl,y▸h.aw,o,p,s,x,h.bl,h.kp⟩
end Sk
namespace Sk
open Hf Bt Zr Ch Sq Tn Bk Sm Ix2 Sd
open Front (ival)
theorem qNf (ad n X:Nat) (l:List T) (B D g:Nat) (d:DV) (rs:List Rr) (r j:Nat) (x:Rr) (hx:rs[r]? =yA x) (hr:r<d.m) (P:Ps ad l n) (hX:kN l.flatten=X) (h:Wk ad l n X x j) (h1:x.st=1) (si:kC (gP l) n d.sh) (w:yC) (af:B<=w.heap.size) (hw:AW ad l n w B D g d rs):
  yG yK 198 #[.agg #[qc (yA ⟨D,0,yB⟩),r]] w (Post ad l n B D g d rs r (deed l X d.sh d.dec x) w):=by
 have hb:x.b<n:=by have:=h.b1;have:=h.lst.lt;omega
 have hn:=P.many;have a9:kN d.sh.held<=64:=by have h5:=si.rgt.2.2.2.2.1;have h6:=si.rgt.2.1;omega
 have s:deed l X d.sh d.dec x=if(xq d.sh (x.b:Int)).2.2=0 then gets l X (xq d.sh (x.b:Int)).2.1 d.dec x (xq d.sh (x.b:Int)).1 else⟨d.sh,d.dec,⟨2,x.o,x.n,x.b,x.l,x.got,x.txt⟩,yI,⟨#[]⟩,0⟩:=by unfold deed;rw[qPr h1]
 obtain⟨H,i,HS⟩:=yV (fun h0=>si.take hb h0) (fun w' (ae:AW ad l n w' B D g d rs)=>Cache.zPy d.sh d.sa d.sk (x.b:Int) w' za ae.dm.shw za za) (fun w' ae=>qI6 ad n l B D g d rs r hr w' ae);obtain⟨W,hW⟩:=zB ((w.alloc (qp #[qc (yA ⟨D,0,yB⟩),r] TAt)).alloc (qp #[qY ⟨#[]⟩,qX qm 0] TRp));have O:=LW.start hw r af;obtain⟨E,hE⟩:=zB w.heap.size;rw[hW,hE]at O;have K1:=zH (O.below ((yR _ W).drew));obtain⟨q,hq⟩:=zB (xq d.sh (x.b:Int));rw[hq]at i s H;obtain⟨tx,c,er⟩:=q;unfold Cache.zC7 at i;simp only at i s H;obtain⟨qd,a3⟩:=zB (deed l X d.sh d.dec x);rw[a3]at s⊢;obtain⟨a5,HE,HW,HX,HH⟩:=yY s hE hW hx h;clear O hw hW hE hq s a9 h si hx a3;go_enter func198,ntmps198;go_wp2;rw[HE.out,show(w.alloc (qp #[qc (yA ⟨D,0,yB⟩),r] TAt)).alloc (qp #[qY ⟨#[]⟩,qX qm 0] TRp)=W from HW.out];go_cut [4,5,6] (fun s4 s5 s6 wx=>∃z b pk,s4=qY tx/\s5=qc (yA ⟨z,0,yB⟩)/\s6=qX qm er/\yL (TW ad l n w wx B D g E d rs r z c b pk))
 case first=>
  refine zS [] (fun W9=>LW ad l n w W9 B D g E d rs r) [0,1,2,4,8,0,32,64,128,256,592,1024,2048,2048,2048,0,40959,114687,262143] 19<|zu 0 8 (zP E 0)<|zy 1 9 (zP D 0) (fun w hS=>zl 252 8 (qJg hS.gw.bx)) K1.out<|zu 2 10 (zP D 0)<|zu 3 11 (zP D 2)<|zy 4 12 (.agg #[qX qm d.sh.room,qX qm d.sh.clock,qZ d.sa (kN d.sh.held) d.sk]) (fun w hS=>zl 36 11 (qK9 hS.gw.aw.blk)) K1.out<|zy 5 13 (.agg #[qc (yA ⟨D,0,yB⟩),r]) (fun w hS=>zl 254 1 (qKf hS.gw.bx)) K1.out<| ?_
  refine y2 6 15 ?_ ?_
  .
   refine yc 14 254 #[.agg #[qc (yA ⟨D,0,yB⟩),r]] (HS.out _ K1.out.gw.aw) ?_;rintro e wa ⟨rfl,K⟩;have m:=zH (K1.out.below K);refine⟨_,rfl,qy (qy (m.out)),?_⟩;refine zu 7 15 (qc (yA ⟨g,r*7,yB⟩))<|zu 8 16 (qc (yA ⟨g,r*7+3,yB⟩))<|zy 9 17 (qX qm (x.b:Int)) (fun w hS=>zl 3 16 (yw (hS.gw.aw.at r x HX.out).2.2.2.1 zf zf)) m.out<| ?_
   refine y2 10 15 ?_ ?_
   .
    refine yc 18 253 #[.agg #[qX qm d.sh.room,qX qm d.sh.clock,qZ d.sa (kN d.sh.held) d.sk],qX qm (x.b:Int)] (i.out _ m.out.gw.aw) ?_;rintro e wb ⟨b,pk,rfl,F,G,f⟩;have KB:=zH (m.out.below f);refine⟨_,rfl,qy (qy (KB.out)),?_⟩;refine zu 11 7 (qg #[qY tx,.agg #[qX qm c.room,qX qm c.clock,qZ b (kN c.held) pk],qX qm er])<|zu 12 19 (qY tx)<|zu 13 20 (.agg #[qX qm c.room,qX qm c.clock,qZ b (kN c.held) pk])<|zu 14 21 (qX qm er)<| ?_
    refine zo 15 5 (qc (yA ⟨wb,0,yB⟩)) (xK (w2:=wb.alloc (qp ZSf TSf)) zf rfl rfl) (qy (qy (KB.out.al (qp ZSf TSf)))) ?_;refine zu 16 4 (qY tx)<| ?_
    obtain⟨u,hL,o⟩:=(KB.out.al (qp ZSf TSf)).put (zAh wb (qp ZSf TSf)) KB.out.sz (F.below ((yR _ _).alloc (qPq _) _) rfl) (qKz G ((yR _ _).alloc (qPq _) _));refine zw 17 yB (xI (t:=36) (x:=(.tmp 5)) (y:=(.tmp 20)) rfl zf zf u) (qy (qy (hL))) ?_;refine zu 18 6 (qX qm er)<|zE<| ?_
    simp only[zP,zI,Act.put,qPx,qPw,qPy];go_wp2;go_meet;exact⟨_,b,pk,rfl,rfl,rfl,zH o⟩
   .
    refine yv 5 (qc (yA ⟨wa,0,yB⟩)) (xK (w2:=wa.alloc (qp ZSf TSf)) zf rfl rfl) (qy (qy (m.out.al (qp ZSf TSf)))) ?_;refine zx 10 18 253 #[.agg #[qX qm d.sh.room,qX qm d.sh.clock,qZ d.sa (kN d.sh.held) d.sk],qX qm (x.b:Int)] (i.out _ (m.out.al (qp ZSf TSf)).gw.aw) ?_;rintro e wb ⟨b,pk,rfl,F,G,f⟩;have KB:=zH ((m.out.al (qp ZSf TSf)).below f);refine⟨_,rfl,qy (qy (KB.out)),?_⟩;refine zu 11 7 (qg #[qY tx,.agg #[qX qm c.room,qX qm c.clock,qZ b (kN c.held) pk],qX qm er])<|zu 12 19 (qY tx)<|zu 13 20 (.agg #[qX qm c.room,qX qm c.clock,qZ b (kN c.held) pk])<|zu 14 21 (qX qm er)<|zu 16 4 (qY tx)<| ?_
    obtain⟨u,hL,o⟩:=KB.out.put (hkeep (zAh wa (qp ZSf TSf)) f) m.out.sz F G;refine zw 17 yB (xI (t:=36) (x:=(.tmp 5)) (y:=(.tmp 20)) rfl zf zf u) (qy (qy (hL))) ?_;refine zu 18 6 (qX qm er)<|zE<| ?_
    simp only[zP,zI,Act.put,qPx,qPw,qPy];go_wp2;go_meet;exact⟨_,b,pk,rfl,rfl,rfl,zH o⟩
  .
   refine yv 5 (qc (yA ⟨W.drew.heap.size,0,yB⟩)) (xK (w2:=W.drew.alloc (qp ZSf TSf)) zf rfl rfl) (qy (qy (K1.out.al (qp ZSf TSf)))) ?_;refine zx 6 14 254 #[.agg #[qc (yA ⟨D,0,yB⟩),r]] (HS.out _ (K1.out.al (qp ZSf TSf)).gw.aw) ?_;rintro e wa ⟨rfl,K⟩;have m:=zH ((K1.out.al (qp ZSf TSf)).below K);refine⟨_,rfl,qy (qy (m.out)),?_⟩;refine zu 7 15 (qc (yA ⟨g,r*7,yB⟩))<|zu 8 16 (qc (yA ⟨g,r*7+3,yB⟩))<|zy 9 17 (qX qm (x.b:Int)) (fun w hS=>zl 3 16 (yw (hS.gw.aw.at r x HX.out).2.2.2.1 zf zf)) m.out<| ?_
   refine zx 10 18 253 #[.agg #[qX qm d.sh.room,qX qm d.sh.clock,qZ d.sa (kN d.sh.held) d.sk],qX qm (x.b:Int)] (i.out _ m.out.gw.aw) ?_;rintro e wb ⟨b,pk,rfl,F,G,f⟩;have KB:=zH (m.out.below f);refine⟨_,rfl,qy (qy (KB.out)),?_⟩;refine zu 11 7 (qg #[qY tx,.agg #[qX qm c.room,qX qm c.clock,qZ b (kN c.held) pk],qX qm er])<|zu 12 19 (qY tx)<|zu 13 20 (.agg #[qX qm c.room,qX qm c.clock,qZ b (kN c.held) pk])<|zu 14 21 (qX qm er)<|zu 16 4 (qY tx)<| ?_
   obtain⟨u,hL,o⟩:=KB.out.put (hkeep (hkeep (zAh W.drew (qp ZSf TSf)) K) f) K1.out.sz F G;refine zw 17 yB (xI (t:=36) (x:=(.tmp 5)) (y:=(.tmp 20)) rfl zf zf u) (qy (qy (hL))) ?_;refine zu 18 6 (qX qm er)<|zE<| ?_
   simp only[zP,zI,Act.put,qPx,qPw,qPy];go_wp2;go_meet;exact⟨_,b,pk,rfl,rfl,rfl,zH o⟩
 case rest=>
  obtain⟨z,b,pk,rfl,rfl,rfl,o⟩:=hcut;have L:=o.out.lw.gw.bx;have a6:=o.out.lw.gw.z1;by_cases M:er=0
  .subst M;obtain rfl:=(H.out rfl).1;have e2:=(H.out rfl).2.1;have hq:=a5.out;rw[qPr rfl]at hq;obtain⟨_,hG,I,V,R⟩:=o.out.lay e2;have a:=o.out.lw.gw.aw.blk;unfold DV.cl at a;obtain⟨w5,Z⟩:=zB (wc.setCells D 2 [qX qm c.room,qX qm c.clock,qZ b (kN c.held) pk]);rw[Z]at hG I V R;have HG:=zH (qNy ad n X l B D g (d.shelf c b pk) rs r j x HX.out hr P hX HH.out w5 (qP2 af I.size) hG.aw);rw[show gets l X (d.shelf c b pk).sh (d.shelf c b pk).dec x (gP l x.b)=qd from hq.symm]at HG;obtain⟨y0,y1,y2,y3⟩:=qIa L;obtain⟨u0,u1,u2⟩:=qLt o.out.zz;obtain⟨v0,v1,v2,v3,v4,v5,v6⟩:=qH7 a;have f2:=qH9 a 2;have f3:=qH9 a 3;have f4:=qH9 a 4;obtain⟨HZ,a2,ac,a4,aa⟩:=yY hG.z1 (yS (qL9 hG.aw hG.z1 qW) (qKk hG.aw hG.z1 qW)) I V R;clear L a6 hG I V R a hq;go_wp2_with fail;rw[show((wc.setCell ⟨D,2,yB⟩ (qX qm c.room)).setCell ⟨D,3,yB⟩ (qX qm c.clock)).setCell ⟨D,4,yB⟩ (qZ b (kN c.held) pk)=w5 from Z];clear y0 y1 y2 y3 u0 u1 u2 v0 v1 v2 v3 v4 v5 v6 f2 f3 f4 Z;(with_reducible refine HG.out.mono ?_);rintro e w6 ⟨d',rfl,hA,p1,p2,p3,p4,a1,Y⟩;have S:w6.heap[E+1]? =yA (qp #[qY ⟨#[]⟩,qX qm 0] TRp):=(Y (E+1) (by have:=a4.out;omega) a2.out.1 a2.out.2).trans HZ.out;obtain⟨y0,y1,y2,y3⟩:=qIa S;have F6:=yT (FW ad l n w w6 B D g E d' (rs.set r qd.r) _ _) ⟨hA,S,ac.out.trans a1,K1.out.be,fun k h1 h2 h3=>(Y k (by have:=a4.out;omega) h2 h3).trans (aa.out k h1 h3)⟩;have HP:=zH (yS p1 (yS p2 (yS p3 p4)));clear S hA p1 p2 p3 p4 a1 Y;go_wp2;have F7:=F6.out.put (qY qd.tx) (qX qm qd.c);obtain⟨w7,a7⟩:=zB (w6.setCells (E+1) 0 [qY qd.tx,qX qm qd.c]);rw[a7]at F7;rw[show(w6.setCell ⟨E+1,0,yB⟩ (qY qd.tx)).setCell ⟨E+1,1,yB⟩ (qX qm qd.c)=w7 from a7];refine qP5 (v:=qg #[qh qd.dn,.agg #[qY qd.tx,qX qm qd.c]]) ?_ rfl ?_
   .exact qIp (t:=2) (p:=3) rfl _ _ _ ⟨E+1,0,yB⟩ _ rfl (qIv F7.z1)
   .rw[<-HE.out]at F7;exact F7.post rfl HP.out.1 HP.out.2.1 HP.out.2.2.1 HP.out.2.2.2
  .have ag:(er !=0)=yH:=by simpa using M
   have hq:=a5.out;rw[qPt M]at hq;subst hq;have ab:=zH (HS.out wc o.out.lw.gw.aw);obtain⟨y0,y1,y2,y3⟩:=qIa L;clear L a6;go_wp2_with fail;clear y0 y1 y2 y3;(with_reducible refine ab.out.mono ?_);rintro e w2 ⟨rfl,a8⟩;have H2:=zH (o.out.lw.below a8);clear a8;obtain⟨ah,N⟩:=H2.out.gw.aw.row;have v0:=(H2.out.gw.aw.at r x HX.out).1;have f0:=qH9 N (r*7);obtain⟨z0,z1,z2,z3⟩:=qIa H2.out.gw.z1;have hne:=qL9 H2.out.gw.aw H2.out.gw.z1 qW;have F4:=zH (((FW.of H2.out).qJ r hr x ⟨2,x.o,x.n,x.b,x.l,x.got,x.txt⟩ HX.out 0 qW (qX qm 2) rfl).put (qY ⟨#[]⟩) (qX qm 0));obtain⟨w4,a0⟩:=zB ((w2.setCells g (r*7+0) [qX qm 2]).setCells (E+1) 0 [qY ⟨#[]⟩,qX qm 0]);rw[a0]at F4;clear N;go_wp2;rw[show((w2.setCell ⟨g,r*7,yB⟩ (qX qm 2)).setCell ⟨E+1,0,yB⟩ (qY ⟨#[]⟩)).setCell ⟨E+1,1,yB⟩ (qX qm 0)=w4 from a0];refine qP5 (v:=qg #[qh yI,.agg #[qY ⟨#[]⟩,qX qm 0]]) ?_ rfl ?_
   .exact qIp (t:=2) (p:=3) rfl _ _ _ ⟨E+1,0,yB⟩ _ rfl (qIv F4.out.z1)
   .have F5:=F4.out;rw[<-HE.out]at F5;exact F5.post (q:=⟨d.sh,d.dec,⟨2,x.o,x.n,x.b,x.l,x.got,x.txt⟩,yI,⟨#[]⟩,0⟩) rfl rfl rfl rfl rfl
end Sk
namespace Sk
open Hf Zr Ch Sq Tn Bk Sm Ix2 Sd
open Front (ival)
variable {c b:Array yD} {lev n B D g E r z y:Nat} {w0 W W':yC}
theorem qN8 {a m c:Nat} (h:min (a+1) m=c):min ((a:Int)+1) (m:Int)=(c:Int):=za
def DV.count (d:DV) (k:Nat):DV:=⟨d.a,d.ip,d.n,d.ic,d.sh,d.sa,d.sk,d.rp,d.m,d.rc,k⟩
structure YW (lev:Nat) (ps:List T) (n:Nat) (w0 W:yC) (B D g E:Nat) (d:DV) (rs:List Rr) (r z:Nat) (c:Array yD) (y:Nat) (b:Array yD):Prop where
 lw:LW lev ps n w0 W B D g E d rs r
 zz:W.heap[z]? =yA (qp c TEn)
 yy:W.heap[y]? =yA (qp b zEf)
theorem YW.below {e:List T} {d:DV} {f:List Rr} (h:YW lev e n w0 W B D g E d f r z c y b) (a:yM W W W'):YW lev e n w0 W' B D g E d f r z c y b:=⟨h.lw.below a,hkeep h.zz a,hkeep h.yy a⟩
structure XW (lev:Nat) (ps:List T) (n:Nat) (w0 W:yC) (B D g E:Nat) (d:DV) (rs:List Rr) (r z:Nat) (c:Array yD):Prop where
 lw:LW lev ps n w0 W B D g E d rs r
 zz:W.heap[z]? =yA (qp c TEn)
theorem XW.below {e:List T} {d:DV} {f:List Rr} (h:XW lev e n w0 W B D g E d f r z c) (a:yM W W W'):XW lev e n w0 W' B D g E d f r z c:=⟨h.lw.below a,hkeep h.zz a⟩
theorem XW.al {a:List T} {d:DV} {e:List Rr} (h:XW lev a n w0 W B D g E d e r z c) (o:Obj):XW lev a n w0 (W.alloc o) B D g E d e r z c:=h.below ((yR _ _).alloc (qPq _) _)
theorem XW.put {f:List T} {d:DV} {i:List Rr} {u v x t u' v' x' t':yD} (h:XW lev f n w0 W B D g E d i r z c) (a:W.heap[y]? =yA (qp #[u,v,x,t] zEf)) (o:E+2<=y) (p:∀z∈[u',v',x',t'],z.oneCell'=yH):
  ∃W',(storeVar zEf ⟨y,0,yB⟩ (.agg #[u',v',x',t'])).run yK W= .ok () W'/\XW lev f n w0 W' B D g E d i r z c/\YW lev f n w0 W' B D g E d i r z c y #[u',v',x',t']:=by
 obtain⟨W',q,s,m,w⟩:=qE3 a p;have k:=h.lw.far a o qW qW qW qW m w;have l:W'.heap[z]? =yA (qp c TEn):=(m z (fun e=>by
  have j:=h.zz;rw[e,a]at j;exact absurd (qQ6 (qPv j)).2.1 qW)).trans h.zz
 exact⟨W',q,⟨k,l⟩,k,l,s⟩
theorem YW.dec {o:List T} {d:DV} {p:List Rr} (h:YW lev o n w0 W B D g E d p r z c y b) (k:Nat) (w:k<=1099511627776):
  (storeVar 3 ⟨D,6,yB⟩ (qX qm (k:Int))).run yK W= .ok () (W.setCells D 6 [qX qm (k:Int)])/\FW lev o n w0 (W.setCells D 6 [qX qm (k:Int)]) B D g E (d.count k) p (qY ⟨#[]⟩) (qX qm 0)/\(W.setCells D 6 [qX qm (k:Int)]).heap[E]? =yA (qp #[qc (yA ⟨D,0,yB⟩),r] TAt)/\
   (W.setCells D 6 [qX qm (k:Int)]).heap[z]? =yA (qp c TEn)/\(W.setCells D 6 [qX qm (k:Int)]).heap[y]? =yA (qp b zEf):=by
 have i:=h.lw.gw.aw.blk;unfold DV.cl at i;have e:=Kit.zDs (P:=yK) (t:=3) (v:=qX qm (k:Int)) (qH7 i).2.2.2.2.2.2 (qH9 i 6) zf rfl rfl;have u:=xS [qX qm (k:Int)] W D 6 _ _ _ i;have a:∀j,j≠D->(W.setCells D 6 [qX qm (k:Int)]).heap[j]? =W.heap[j]? :=fun j l=>xH _ W D 6 j l;have f:=h.lw.gw.aw.dm;have hne:∀{j:Nat} {m:Array yD} {t:yE},W.heap[j]? =yA (qp m t)->t≠TDk->(W.setCells D 6 [qX qm (k:Int)]).heap[j]? =yA (qp m t):=fun l x=>(a _ (qKk h.lw.gw.aw l x)).trans l;refine⟨e,⟨h.lw.gw.aw.qOo (d':=d.count k) ?_ a rfl rfl rfl ⟨f.en,f.ic,f.idx,f.inil,f.shw,f.cap,f.rgt,f.held,f.m1,f.m8,f.rc,w,f.tI,f.tS⟩,hne h.lw.gw.z1 qW,h.lw.bl.trans (xA _ D 6 (yR _ _) h.lw.gw.aw.lo),h.lw.be,fun j q _ s=>(a j s).trans (h.lw.kp j q)⟩,hne h.lw.gw.bx qW,hne h.zz qW,hne h.yy qW⟩;rw[u];simp[xO,DV.cl,DV.count]
structure UW (lev:Nat) (ps:List T) (n:Nat) (w0 W:yC) (B D g E:Nat) (d:DV) (rs:List Rr) (r y:Nat) (b:Array yD):Prop where
 fw:FW lev ps n w0 W B D g E d rs (qY ⟨#[]⟩) (qX qm 0)
 bx:W.heap[E]? =yA (qp #[qc (yA ⟨D,0,yB⟩),r] TAt)
 yy:W.heap[y]? =yA (qp b zEf)
theorem UW.below {e:List T} {d:DV} {f:List Rr} (h:UW lev e n w0 W B D g E d f r y b) (a:yM W W W'):UW lev e n w0 W' B D g E d f r y b:=by
 have o:=zAd h.bx;have m:=h.fw.be;exact⟨⟨h.fw.aw.below a,hkeep h.fw.z1 a,h.fw.bl.trans (a.mono za),m,fun k i j l=>(a.block k za).trans (h.fw.kp k i j l)⟩,hkeep h.bx a,hkeep h.yy a⟩
theorem UW.qJ {o:List T} {d:DV} {e:List Rr} (h:UW lev o n w0 W B D g E d e r y b) (j:r<d.m) (x x':Rr) (l:e[r]? =yA x) (k:Nat) (i:k<7) (a:yD) (m:LRr.cl x'=(LRr.cl x).set k a):UW lev o n w0 (W.setCells g (r*7+k) [a]) B D g E d (e.set r x') r y b:=by
 obtain⟨_,_,f⟩:=h.fw.aw.qJ r j x x' l k i a m;exact⟨h.fw.qJ r j x x' l k i a m,(f _ _ _ h.bx qW).trans h.bx,(f _ _ _ h.yy qW).trans h.yy⟩
theorem zZq (lev n X:Nat) (l:List T) (B D g:Nat) (d:DV) (rs:List Rr) (r j:Nat) (x:Rr) (hx:rs[r]? =yA x) (hr:r<d.m) (P:Ps lev l n) (A:Arc lev l (zCt lev l) n) (b1:(zCt lev l).size<=100000000) (b0:d.a=zCt lev l) (h:Wk lev l n X x j) (h2:x.st=2) (w:yC) (b2:B<=w.heap.size) (hw:AW lev l n w B D g d rs):
  yG yK 199 #[.agg #[qc (yA ⟨D,0,yB⟩),r]] w (Post lev l n B D g d rs r (deed l X d.sh d.dec x) w):=by
 have hb:x.b<n:=by have:=h.b1;have:=h.lst.lt;omega
 have hn:=P.many;have ax:=P.lo;have ah:=P.hi;have H:=hw.dm.dec;obtain⟨dd,O⟩:=zB (min (d.dec+1) 1099511627776);have a5:deed l X d.sh d.dec x=⟨d.sh,dd,⟨3,x.o,x.n,x.b,x.l,x.got,gP l x.b⟩,yI,⟨#[]⟩,0⟩:=by unfold deed;rw[qPt za,qPr h2,O]
 rw[a5];have M:=fun w' az=>qKv lev n l B D g d rs r x hx hr hb hn w' az;have F:=fun w'=>zFi (pos l x.b) (40*lev) (zCt lev l) (gP l x.b) (l.getD x.b []) w' b1 (kF _) (P.each _ hb) za za (A.mem hb).2 (A.blk x.b hb);have HS:=zH (fun w' az=>qI6 lev n l B D g (d.count dd) rs r hr w' az);have a9:(zBa (l.getD x.b []):Int)=xJ (xD (l.getD x.b [])):=by unfold xJ zBa;rfl
 have ac:enV (qIi lev l x.b)= .agg #[qX qm (pos l x.b:Int),qX qm ((40*lev:Nat):Int),qX qm (qH8 l x.b:Int),qX qm ((gP l x.b).size:Int),qX .u32 (xJ (xD (l.getD x.b [])))]:=by
  unfold enV zAx qIi;rw[show(gP l x.b).size=kN (l.getD x.b []) from x9 _]
 unfold qGe at F;rw[a9]at F;rw[ac]at M;rw[<-b0]at F;obtain⟨i,hi⟩:=zB (pos l x.b);obtain⟨rm,Y⟩:=zB (40*lev);obtain⟨f,hf⟩:=zB (qH8 l x.b);obtain⟨s,hs⟩:=zB (gP l x.b);obtain⟨V,hV⟩:=zB (xJ (xD (l.getD x.b [])));obtain⟨N,hN⟩:=zB (i+kN (zAn (l.getD x.b [])));obtain⟨a,ha⟩:=zB d.a;rw[hi,Y,hs,hV,hN,ha]at F;rw[hi,Y,hf,hs,hV]at M;rw[hs];obtain⟨HA,ad,a4⟩:=yV ha M F;obtain⟨W,hW⟩:=zB ((w.alloc (qp #[qc (yA ⟨D,0,yB⟩),r] TAt)).alloc (qp #[qY ⟨#[]⟩,qX qm 0] TRp));have I:=LW.start hw r b2;obtain⟨E,hE⟩:=zB w.heap.size;rw[hW,hE]at I;obtain⟨K0,ab,HE,HW,HX,aq⟩:=yZ I O hE hW hx H;obtain⟨y0,y1,y2,y3⟩:=qIa I.gw.bx;clear I hw hW hE a5 M F a9 ac hi Y hf hs hV hN ha b0 b1 A h hx O ax ah H;go_enter func199,ntmps199;go_wp2_with fail;rw[HE.out,show(w.alloc (qp #[qc (yA ⟨D,0,yB⟩),r] TAt)).alloc (qp #[qY ⟨#[]⟩,qX qm 0] TRp)=W from HW.out];clear y0 y1 y2 y3;(with_reducible refine(ad.out _ K0.out.gw.aw).mono ?_);rintro e w2 ⟨rfl,ae⟩;have K2:=K0.out.below ae;obtain⟨w3,G⟩:=zB (w2.alloc (qp #[i,rm,f,qX qm (s.size:Int),qX .u32 V] TEn));have k:w3.heap[w2.heap.size]? =yA (qp #[i,rm,f,qX qm (s.size:Int),qX .u32 V] TEn):=by rw[<-G];exact zAh _ _
 have K3:=yT (XW lev l n w w3.drew B D g E d rs r w2.heap.size #[qX qm (i:Int),qX qm (rm:Int),qX qm (f:Int),qX qm (s.size:Int),qX .u32 V]) ⟨(K2.below (by rw[<-G];exact(yR _ _).alloc (qPq _) _)).below ((yR _ _).drew),k⟩;obtain⟨z,hz⟩:=zB w2.heap.size;obtain⟨ak,HZ⟩:=yU G hz;rw[hz]at K3;clear ae k G hz K2 ad;go_wp2;rw[HZ.out];rw[show w2.alloc (qp #[i,rm,f,qX qm (s.size:Int),qX .u32 V] TEn)=w3 from ak.out];go_cut [5,6] (fun s5 s6 wx=>∃y,s5=qc (yA ⟨y,0,yB⟩)/\s6=qX qm 0/\yL (YW lev l n w wx B D g E d rs r z #[qX qm (i:Int),qX qm (rm:Int),qX qm (f:Int),qX qm (s.size:Int),qX .u32 V] y #[qY s,qX .u32 V,qX qm (i:Int),qX qm (N:Int)]))
 case first=>
  refine zS [] (fun o=>XW lev l n w o B D g E d rs r z #[qX qm (i:Int),qX qm (rm:Int),qX qm (f:Int),qX qm (s.size:Int),qX .u32 V]) [0,1,2,4,8,0,32,0,128,336,512,1024,1024,0,12287,32767] 16<|zu 0 10 (zP E 0)<|zy 1 11 (zP D 0) (fun w m=>zl 252 10 (qJg m.lw.gw.bx)) K3.out<|zu 2 12 (zP D 0)<|zu 3 13 (zP D 0)<|zy 4 14 (qY a) (fun w m=>zl 9 13 (HA.out▸yw (qH7 m.lw.gw.aw.blk).1 zf zf)) K3.out<|zu 5 15 (zP z 0)<|zy 6 16 (zI i) (fun w m=>zl 3 15 (yw (cells5 m.zz).1 zf zf)) K3.out<|zu 7 17 (zP z 1)<|zy 8 18 (zI rm) (fun w m=>zl 3 17 (yw (cells5 m.zz).2.1 zf zf)) K3.out<| ?_
  refine y2 9 13 ?_ ?_
  .
   refine yc 19 247 #[qY a,qX qm (i:Int),qX qm (rm:Int)] (a4.out _) ?_;rintro e wa ⟨rfl,K⟩;have KA:=zH (K3.out.below K);refine⟨_,rfl,qy (qy (KA.out)),?_⟩;refine zu 10 9 (qg #[.agg #[qY s,qX .u32 V,i,N],qX qm 0])<|zu 11 20 (.agg #[qY s,qX .u32 V,i,N])<|zu 12 21 (qX qm 0)<| ?_
   refine zo 13 5 (qc (yA ⟨wa,0,yB⟩)) (xK (w2:=wa.alloc (qp #[qY ⟨#[]⟩,qX .u32 0,qX qm 0,qX qm 0] zEf)) zf rfl rfl) (qy (qy (KA.out.al (qp #[qY ⟨#[]⟩,qX .u32 0,qX qm 0,qX qm 0] zEf)))) ?_;obtain⟨w4,c,hL,hT⟩:=(KA.out.al (qp #[qY ⟨#[]⟩,qX .u32 0,qX qm 0,qX qm 0] zEf)).put (u':=qY s) (v':=qX .u32 V) (x':=qX qm (i:Int)) (t':=qX qm (N:Int)) (zAh wa (qp #[qY ⟨#[]⟩,qX .u32 0,qX qm 0,qX qm 0] zEf)) KA.out.lw.sz (by simp[Value.oneCell']);refine zw 14 yB (xI (t:=105) (x:=(.tmp 5)) (y:=(.tmp 20)) rfl zf zf c) (qy (qy (hL))) ?_;refine zu 15 6 (qX qm 0)<|zE<| ?_
   simp only[zP,zI,Act.put,qPx,qPw,qPy];go_wp2;go_meet;exact⟨_,rfl,rfl,zH hT⟩
  .
   refine yv 5 (qc (yA ⟨w3.drew.heap.size,0,yB⟩)) (xK (w2:=w3.drew.alloc (qp #[qY ⟨#[]⟩,qX .u32 0,qX qm 0,qX qm 0] zEf)) zf rfl rfl) (qy (qy (K3.out.al (qp #[qY ⟨#[]⟩,qX .u32 0,qX qm 0,qX qm 0] zEf)))) ?_;refine zx 9 19 247 #[qY a,qX qm (i:Int),qX qm (rm:Int)] (a4.out _) ?_;rintro e wa ⟨rfl,K⟩;have KA:=zH ((K3.out.al (qp #[qY ⟨#[]⟩,qX .u32 0,qX qm 0,qX qm 0] zEf)).below K);refine⟨_,rfl,qy (qy (KA.out)),?_⟩;refine zu 10 9 (qg #[.agg #[qY s,qX .u32 V,i,N],qX qm 0])<|zu 11 20 (.agg #[qY s,qX .u32 V,i,N])<|zu 12 21 (qX qm 0)<| ?_
   obtain⟨w4,c,hL,hT⟩:=KA.out.put (u':=qY s) (v':=qX .u32 V) (x':=qX qm (i:Int)) (t':=qX qm (N:Int)) (hkeep (zAh w3.drew (qp #[qY ⟨#[]⟩,qX .u32 0,qX qm 0,qX qm 0] zEf)) K) K3.out.lw.sz (by simp[Value.oneCell']);refine zw 14 yB (xI (t:=105) (x:=(.tmp 5)) (y:=(.tmp 20)) rfl zf zf c) (qy (qy (hL))) ?_;refine zu 15 6 (qX qm 0)<|zE<| ?_
   simp only[zP,zI,Act.put,qPx,qPw,qPy];go_wp2;go_meet;exact⟨_,rfl,rfl,zH hT⟩
 case rest=>
  obtain⟨y,rfl,rfl,hY⟩:=hcut;have Y1:=zH (hY.out.below ((yR _ wc).drew));obtain⟨c,hF,S,k,L⟩:=Y1.out.dec dd (ab.out▸Nat.min_le_right _ _);obtain⟨w5,af⟩:=zB (wc.drew.setCells D 6 [qX qm (dd:Int)]);rw[af]at c hF S k L;have a7:=zH Y1.out.lw.gw.aw.blk;unfold DV.cl at a7;have H:=aq.out;have am:=yT (IntKind.i64.wrap ((d.dec:Int)+1)=(d.dec:Int)+1) (qQa _ ⟨za,za⟩);obtain⟨ai,ay⟩:=yU (qN8 ab.out) c;have U0:=yT (UW lev l n w w5.drew B D g E (d.count dd) rs r y #[qY s,qX .u32 V,qX qm (i:Int),qX qm (N:Int)]) ((UW.mk hF S L).below ((yR _ w5).drew));obtain⟨ar,au⟩:=yU k L;clear c hF S k L af H hY;go_wp2;refine zS [] (fun _=>True) [0,1,0,4,8,16,32,64,128,511,1023,1535] 12<|zp [0,1,2,3,4,5,6,7,8,9,10]<|zk 22 (zP E 0)<|zt 23 (zP D 0) (zl 252 22 (qJg Y1.out.lw.gw.bx))<|zk 24 (zP E 0)<|zt 25 (zP D 0) (zl 252 24 (qJg Y1.out.lw.gw.bx))<|zk 26 (zP D 0)<|zk 27 (zP D 6)<|zt 28 (qX qm (d.dec:Int)) (zl 3 27 (yw (qH7 a7.out).2.2.2.2.2.2 zf zf))<|zt 29 (qX qm ((d.dec:Int)+1)) (Kit.qCv (x:= .tmp 28) (y:= .const (qX qm 1)) (t:=3) (u:=3) zf zf zf am.out _)<|zt 30 (zI dd) (qKe (x:= .tmp 29) (y:= .const (qX qm 1099511627776)) (t:=3) (u:=3) zf zf zf ai.out _)<|zk 31 (zP D 0)<|zk 32 (zP D 6)<|zn<|zw 11 yB (zr 3 32 30 (ay.out)) (qy (qy trivial))<|zE<| ?_
  simp only[zP,zI,Act.put,qPx,qPw,qPy];obtain⟨c0,c1,c2,c3,c4⟩:=cells5 ar.out;obtain⟨⟨v0,v1,v2,v3⟩,_⟩:=zDf au.out;have ap:((s.size:Int)!=(s.size:Int))=yI:=by simp
  have an:(V !=V)=yI:=by simp
  clear c0 c1 c2 v2 v3;go_wp2;clear c3 c4 v0 v1 ap an;obtain⟨LA,LY⟩:=yU (fun(o:yC) (h:o.heap[E]? =yA (qp #[qc (yA ⟨D,0,yB⟩),r] TAt)/\o.heap[y]? =yA (qp #[qY s,qX .u32 V,i,N] zEf))=>qKf h.1) (fun(o:yC) (h:o.heap[E]? =yA (qp #[qc (yA ⟨D,0,yB⟩),r] TAt)/\o.heap[y]? =yA (qp #[qY s,qX .u32 V,i,N] zEf))=>yw (P:=yK) (t:=9) (zDf h.2).1.1 zf zf);refine zS [11] (fun o=>o.heap[E]? =yA (qp #[qc (yA ⟨D,0,yB⟩),r] TAt)/\o.heap[y]? =yA (qp #[qY s,qX .u32 V,i,N] zEf)) [0,1,0,6,0,16,11,75,139,511,1023,1535] 12<|zu 4 61 (zP y 0)<|zy 2 59 (.agg #[qc (yA ⟨D,0,yB⟩),r]) (fun w m=>zl 254 1 (LA.out w m)) (yS U0.out.bx U0.out.yy)<|zy 5 62 (qY s) (fun w m=>zl 9 61 (LY.out w m)) (yS U0.out.bx U0.out.yy)<|zp [0]<|zt 57 (.agg #[qc (yA ⟨D,0,yB⟩),r]) ((fun w m=>zl 254 1 (LA.out w m)) _ (yS U0.out.bx U0.out.yy))<|zn<|zx 1 58 254 #[.agg #[qc (yA ⟨D,0,yB⟩),r]] (HS.out _ U0.out.fw.aw)<| ?_
  rintro e w6 ⟨rfl,aj⟩;have U1:=zH (U0.out.below aj);refine⟨_,rfl,qy (qy (yS U1.out.bx U1.out.yy)),?_⟩;refine zx 3 60 254 #[.agg #[qc (yA ⟨D,0,yB⟩),r]] (HS.out _ U1.out.fw.aw)<| ?_
  rintro e w8 ⟨rfl,ao⟩;have U2:=zH (U1.out.below ao);obtain⟨b4,ag⟩:=U2.out.fw.aw.row;have a6:=Kit.zDs (P:=yK) (t:=3) (v:=qX qm 3) (U2.out.fw.aw.at r x HX.out).1 (qH9 ag (r*7)) zf rfl rfl;have U3:=zH (U2.out.qJ hr x ⟨3,x.o,x.n,x.b,x.l,x.got,x.txt⟩ HX.out 0 qW (qX qm 3) rfl);obtain⟨Z,a1⟩:=zB (w8.setCells g (r*7+0) [qX qm 3]);rw[a1]at U3;rw[show w8.setCell ⟨g,r*7,yB⟩ (qX qm 3)=Z from a1]at a6;have aa:(rs.set r ⟨3,x.o,x.n,x.b,x.l,x.got,x.txt⟩)[r]? =yA ⟨3,x.o,x.n,x.b,x.l,x.got,x.txt⟩:=by rw[qSu,qPr rfl,qPr (h_lt HX.out)]
  obtain⟨b3,a3⟩:=U3.out.fw.aw.row;have a8:=Kit.zDs (P:=yK) (t:=9) (v:=qY s) (U3.out.fw.aw.at r _ aa).2.2.2.2.2.2 (qH9 a3 (r*7+6)) zf rfl rfl;have U4:=zH (U3.out.qJ hr _ ⟨3,x.o,x.n,x.b,x.l,x.got,s⟩ aa 6 qW (qY s) rfl);obtain⟨R,a0⟩:=zB (Z.setCells g (r*7+6) [qY s]);rw[a0,List.set_set]at U4;rw[show Z.setCell ⟨g,r*7+6,yB⟩ (qY s)=R from a0]at a8;refine⟨_,rfl,qy (qy (yS U2.out.bx U2.out.yy)),?_⟩;refine zp [6,7]<|zk 63 (qc (yA ⟨g,r*7,yB⟩))<|zk 64 (qc (yA ⟨g,r*7,yB⟩))<|zn<|zw 8 yB (xI (t:=3) (x:=(.tmp 64)) (y:=(.const (qX qm 3))) rfl zf zf (a6)) (qy (qy (yS U3.out.bx U3.out.yy)))<|zp [9,10]<|zk 65 (qc (yA ⟨g,r*7,yB⟩))<|zk 66 (qc (yA ⟨g,r*7+6,yB⟩))<|zn<|zw 11 yB (zr 9 66 62 (a8)) (qy (qz zf))<|zE<| ?_
  simp only[zP,zI,Act.put,qPx,qPw,qPy];obtain⟨z0,z1,z2,z3⟩:=qIa U4.out.fw.z1;go_wp2;have F5:=U4.out.fw.put (qY ⟨#[]⟩) (qX qm 0);obtain⟨av,a2⟩:=zB (R.setCells (E+1) 0 [qY ⟨#[]⟩,qX qm 0]);rw[a2]at F5;rw[show(R.setCell ⟨E+1,0,yB⟩ (qY ⟨#[]⟩)).setCell ⟨E+1,1,yB⟩ (qX qm 0)=av from a2];refine qP5 (v:=qg #[qh yI,.agg #[qY ⟨#[]⟩,qX qm 0]]) ?_ rfl ?_
  .exact qIp (t:=2) (p:=3) rfl _ _ _ ⟨E+1,0,yB⟩ _ rfl (qIv F5.z1)
  .rw[<-HE.out]at F5;exact F5.post (q:=⟨d.sh,dd,⟨3,x.o,x.n,x.b,x.l,x.got,s⟩,yI,⟨#[]⟩,0⟩) rfl rfl rfl rfl rfl
end Sk
namespace Sk
open Hf Bt Zr Wg Ch Sq Tn Bk Sm Ix2 Sd
open Front (ival)
variable {lev n B D g E r y:Nat} {w0 W:yC}
structure VW (lev:Nat) (ps:List T) (n:Nat) (w0 W:yC) (B D g E:Nat) (d:DV) (rs:List Rr) (r y:Nat) (x:Rr):Prop where
 lw:LW lev ps n w0 W B D g E d rs r
 yy:W.heap[y]? =yA (qp (LRr.cl x).toArray TRr)
theorem VW.below {b:List T} {W':yC} {d:DV} {c:List Rr} {x:Rr} (h:VW lev b n w0 W B D g E d c r y x) (a:yM W W W'):VW lev b n w0 W' B D g E d c r y x:=⟨h.lw.below a,hkeep h.yy a⟩
theorem VW.al {a:List T} {d:DV} {b:List Rr} {x:Rr} (h:VW lev a n w0 W B D g E d b r y x) (o:Obj):VW lev a n w0 (W.alloc o) B D g E d b r y x:=h.below ((yR _ _).alloc (qPq _) _)
theorem VW.put {b:List T} {z:Nat} {d:DV} {f:List Rr} {x:Rr} {c:xE} {a:Option yF} {pk:Nat} (h:VW lev b n w0 W B D g E d f r y x) (j:W.heap[z]? =yA (qp ZSf TSf)) (k:E+2<=z) (p:kH W c a pk) (q:kL W (kN c.held) a pk):
  (storeVar TSf ⟨z,0,yB⟩ (.agg #[qX qm c.room,qX qm c.clock,qZ a (kN c.held) pk])).run yK W= .ok () (W.setCells z 0 [qX qm c.room,qX qm c.clock,qZ a (kN c.held) pk])/\
   VW lev b n w0 (W.setCells z 0 [qX qm c.room,qX qm c.clock,qZ a (kN c.held) pk]) B D g E d f r y x/\TW lev b n w0 (W.setCells z 0 [qX qm c.room,qX qm c.clock,qZ a (kN c.held) pk]) B D g E d f r z c a pk:=by
 obtain⟨l,m,o⟩:=h.lw.put j k p q;refine⟨l,⟨m,(xH _ W z 0 y (fun e=> ?_)).trans h.yy⟩,o⟩;have i:=h.yy;rw[e,j]at i;exact absurd (qQ6 (qPv i)).2.1 qW
theorem qKc (lev n X:Nat) (b:List T) (B D g:Nat) (d:DV) (rs:List Rr) (r j:Nat) (x:Rr) (hx:rs[r]? =yA x) (hr:r<d.m) (P:Ps lev b n) (hX:kN b.flatten=X) (h:Wk lev b n X x j) (h3:x.st=3) (ht:x.txt=gP b x.b) (si:kC (gP b) n d.sh) (w:yC) (am:B<=w.heap.size) (hw:AW lev b n w B D g d rs):
  yG yK 200 #[.agg #[qc (yA ⟨D,0,yB⟩),r]] w (Post lev b n B D g d rs r (deed b X d.sh d.dec x) w):=by
 have hb:x.b<n:=by have:=h.b1;have:=h.lst.lt;omega
 have hn:=P.many;have af:kN d.sh.held<=64:=by have h5:=si.rgt.2.2.2.2.1;have h6:=si.rgt.2.1;omega
 have G:deed b X d.sh d.dec x=gets b X (if(kJ d.sh (x.b:Int) (gP b x.b)).2.2=0 then(kJ d.sh (x.b:Int) (gP b x.b)).2.1 else d.sh) d.dec x (gP b x.b):=by unfold deed;rw[qPt za,qPt za,ht]
 have M:=fun h0=>(si.keep hb h0).1;have i:=fun w' (ak:AW lev b n w' B D g d rs)=>Cache.qKc d.sh d.sa d.sk (x.b:Int) (gP b x.b) w' za ak.dm.shw za za;obtain⟨HS,HG⟩:=yU (fun w' ak=>qI6 lev n b B D g d rs r hr w' ak) (fun(d':DV) (hm:d'.m=d.m) (a0:d'.dec=d.dec) w' (an:B<=w'.heap.size) ak=>qNy lev n X b B D g d' rs r j x hx (by rw[hm];exact hr) P hX h w' an ak);obtain⟨W,hW⟩:=zB ((w.alloc (qp #[qc (yA ⟨D,0,yB⟩),r] TAt)).alloc (qp #[qY ⟨#[]⟩,qX qm 0] TRp));have S:=LW.start hw r am;obtain⟨E,hE⟩:=zB w.heap.size;rw[hW,hE]at S;have K0:=zH S;obtain⟨l,ab⟩:=zB (deed b X d.sh d.dec x);rw[ab]at G⊢;obtain⟨s,hs⟩:=zB (gP b x.b);rw[hs]at i G M ht HG;obtain⟨q,hq⟩:=zB (kJ d.sh (x.b:Int) s);rw[hq]at i G M;obtain⟨gn,c,er⟩:=q;have Y:=zH i;unfold Cache.zC7 at Y;simp only at Y G M;obtain⟨ah,ad,HE,HW,HX,HH,ap,HT,aq⟩:=yj M G hE hW hx h hs ht si;obtain⟨y0,y1,y2,y3⟩:=qIa S.gw.bx;clear S hw hW hE hq G af h si hx ab M i hs ht h3;go_enter func200,ntmps200;go_wp2_with fail;rw[HE.out,show(w.alloc (qp #[qc (yA ⟨D,0,yB⟩),r] TAt)).alloc (qp #[qY ⟨#[]⟩,qX qm 0] TRp)=W from HW.out];clear y0 y1 y2 y3;(with_reducible refine(HS.out _ K0.out.gw.aw).mono ?_);rintro e w2 ⟨rfl,ae⟩;have K2:=K0.out.below ae;obtain⟨q0,q1,q2,q3,q4,q5,q6⟩:=K2.gw.aw.at r x HX.out;rw[HT.out]at q6;have aa:(LRr.cl x).toArray= #[qX qm (x.st:Int),qX qm (x.o:Int),qX qm (x.n:Int),qX qm (x.b:Int),qX qm (x.l:Int),qY x.got,qY s]:=by
  rw[<-HT.out];rfl
 obtain⟨w3,R⟩:=zB (w2.alloc (qp #[qX qm (x.st:Int),qX qm (x.o:Int),qX qm (x.n:Int),qX qm (x.b:Int),qX qm (x.l:Int),qY x.got,qY s] TRr));have ac:w3.heap[w2.heap.size]? =yA (qp (LRr.cl x).toArray TRr):=by rw[<-R,aa];exact zAh _ _
 have K3:=yT (VW lev b n w w3.drew B D g E d rs r w2.heap.size x) ⟨(K2.below (by rw[<-R];exact(yR _ _).alloc (qPq _) _)).below ((yR _ _).drew),ac⟩;obtain⟨z,hz⟩:=zB w2.heap.size;obtain⟨ag,HZ,a3⟩:=yV R hz aa;rw[hz]at K3;clear ae ac R hz K2 aa;go_wp2;rw[HZ.out];rw[show w2.alloc (qp #[qX qm (x.st:Int),qX qm (x.o:Int),qX qm (x.n:Int),qX qm (x.b:Int),qX qm (x.l:Int),qY x.got,qY s] TRr)=w3 from ag.out];clear q0 q1 q2 q3 q4 q5 q6;obtain⟨LE,LD,L3,L6⟩:=yX (fun(W9:yC) (h:VW lev b n w W9 B D g E d rs r z x)=>qJg h.lw.gw.bx) (fun(W9:yC) (h:VW lev b n w W9 B D g E d rs r z x)=>qK9 h.lw.gw.aw.blk) (fun(W9:yC) (h:VW lev b n w W9 B D g E d rs r z x)=>show(loadVar 3 ⟨z,3,yB⟩).run yK W9= .ok (qX qm (x.b:Int)) W9 by have h:=h.yy;rw[a3.out]at h;exact yw (qH7 h).2.2.2.1 zf zf) (fun(W9:yC) (h:VW lev b n w W9 B D g E d rs r z x)=>show(loadVar 9 ⟨z,6,yB⟩).run yK W9= .ok (qY s) W9 by have h:=h.yy;rw[a3.out]at h;exact yw (qH7 h).2.2.2.2.2.2 zf zf);go_cut [5,6,7] (fun s5 s6 s7 wx=>∃y pa pk,s5=qX qm gn/\s6=qc (yA ⟨y,0,yB⟩)/\s7=qX qm er/\yL (TW lev b n w wx B D g E d rs r y c pa pk/\wx.heap[z]? =yA (qp (LRr.cl x).toArray TRr)))
 case first=>
  refine zS [] (fun W9=>VW lev b n w W9 B D g E d rs r z x) [0,1,2,4,8,0,32,0,128,336,512,1024,1024,1024,0,20479,57343,131071] 18<|zu 0 13 (zP E 0)<|zy 1 14 (zP D 0) (fun w hS=>zl 252 13 (LE.out w hS)) K3.out<|zu 2 15 (zP D 0)<|zu 3 16 (zP D 2)<|zy 4 17 (.agg #[qX qm d.sh.room,qX qm d.sh.clock,qZ d.sa (kN d.sh.held) d.sk]) (fun w hS=>zl 36 16 (LD.out w hS)) K3.out<|zu 5 18 (zP z 3)<|zy 6 19 (qX qm (x.b:Int)) (fun w hS=>zl 3 18 (L3.out w hS)) K3.out<|zu 7 20 (zP z 6)<|zy 8 21 (qY s) (fun w hS=>zl 9 20 (L6.out w hS)) K3.out<| ?_
  refine y2 9 14 ?_ ?_
  .
   refine yc 22 258 #[.agg #[qX qm d.sh.room,qX qm d.sh.clock,qZ d.sa (kN d.sh.held) d.sk],qX qm (x.b:Int),qY s] (Y.out _ K3.out.lw.gw.aw) ?_;rintro e wa ⟨pa,pk,rfl,a0,a9,Z⟩;have KA:=zH (K3.out.below Z);refine⟨_,rfl,qy (qy (KA.out)),?_⟩;refine zu 10 12 (qg #[qX qm gn,.agg #[qX qm c.room,qX qm c.clock,qZ pa (kN c.held) pk],qX qm er])<|zu 11 23 (qX qm gn)<|zu 12 24 (.agg #[qX qm c.room,qX qm c.clock,qZ pa (kN c.held) pk])<|zu 13 25 (qX qm er)<| ?_
   refine zo 14 6 (qc (yA ⟨wa,0,yB⟩)) (xK (w2:=wa.alloc (qp ZSf TSf)) zf rfl rfl) (qy (qy (KA.out.al (qp ZSf TSf)))) ?_;refine zu 15 5 (qX qm gn)<| ?_
   obtain⟨a4,hL,o⟩:=(KA.out.al (qp ZSf TSf)).put (zAh wa (qp ZSf TSf)) KA.out.lw.sz (a0.below ((yR _ _).alloc (qPq _) _) rfl) (qKz a9 ((yR _ _).alloc (qPq _) _));refine zw 16 yB (xI (t:=36) (x:=(.tmp 6)) (y:=(.tmp 24)) rfl zf zf a4) (qy (qy (hL))) ?_;refine zu 17 7 (qX qm er)<|zE<| ?_
   simp only[zP,zI,Act.put,qPx,qPw,qPy];go_wp2;go_meet;exact⟨_,pa,pk,rfl,rfl,rfl,zH ⟨o,hL.yy⟩⟩
  .
   refine yv 6 (qc (yA ⟨w3.drew.heap.size,0,yB⟩)) (xK (w2:=w3.drew.alloc (qp ZSf TSf)) zf rfl rfl) (qy (qy (K3.out.al (qp ZSf TSf)))) ?_;refine zx 9 22 258 #[.agg #[qX qm d.sh.room,qX qm d.sh.clock,qZ d.sa (kN d.sh.held) d.sk],qX qm (x.b:Int),qY s] (Y.out _ (K3.out.al (qp ZSf TSf)).lw.gw.aw) ?_;rintro e wa ⟨pa,pk,rfl,a0,a9,Z⟩;have KA:=zH ((K3.out.al (qp ZSf TSf)).below Z);refine⟨_,rfl,qy (qy (KA.out)),?_⟩;refine zu 10 12 (qg #[qX qm gn,.agg #[qX qm c.room,qX qm c.clock,qZ pa (kN c.held) pk],qX qm er])<|zu 11 23 (qX qm gn)<|zu 12 24 (.agg #[qX qm c.room,qX qm c.clock,qZ pa (kN c.held) pk])<|zu 13 25 (qX qm er)<|zu 15 5 (qX qm gn)<| ?_
   obtain⟨a4,hL,o⟩:=KA.out.put (hkeep (zAh w3.drew (qp ZSf TSf)) Z) K3.out.lw.sz a0 a9;refine zw 16 yB (xI (t:=36) (x:=(.tmp 6)) (y:=(.tmp 24)) rfl zf zf a4) (qy (qy (hL))) ?_;refine zu 17 7 (qX qm er)<|zE<| ?_
   simp only[zP,zI,Act.put,qPx,qPw,qPy];go_wp2;go_meet;exact⟨_,pa,pk,rfl,rfl,rfl,zH ⟨o,hL.yy⟩⟩
 case rest=>
  obtain⟨y,pa,pk,rfl,rfl,rfl,a8⟩:=hcut;have o:=zH a8.out.1;have f:=a8.out.2;rw[a3.out]at f;clear a8;by_cases a2:er=0
  .subst a2;have e2:=ah.out rfl;have hq:=ad.out;rw[qPr rfl]at hq;obtain⟨_,m,V,a5,i⟩:=o.out.lay e2;have a:=o.out.lw.gw.aw.blk;unfold DV.cl at a;obtain⟨w5,a1⟩:=zB (wc.setCells D 2 [qX qm c.room,qX qm c.clock,qZ pa (kN c.held) pk]);have ai:w5.heap[z]? =yA (qp #[qX qm (x.st:Int),qX qm (x.o:Int),qX qm (x.n:Int),qX qm (x.b:Int),qX qm (x.l:Int),qY x.got,qY s] TRr):=by
    rw[<-a1];exact(xH _ wc D 2 z (qKk o.out.lw.gw.aw f qW)).trans f
   rw[a1]at m V a5 i;have H:=zH (HG.out (d.shelf c pa pk) rfl rfl w5 (qP2 am V.size) m.aw);rw[show gets b X (d.shelf c pa pk).sh (d.shelf c pa pk).dec x s=l from hq.symm]at H;obtain⟨y0,y1,y2,y3⟩:=qIa o.out.lw.gw.bx;obtain⟨u0,u1,u2⟩:=qLt o.out.zz;obtain⟨v0,v1,v2,v3,v4,v5,v6⟩:=qH7 a;obtain⟨q0,q1,q2,q3,q4,q5,q6⟩:=qH7 f;have f2:=qH9 a 2;have f3:=qH9 a 3;have f4:=qH9 a 4;have aj:=qKk o.out.lw.gw.aw f qW;obtain⟨a7,K,a6,L,O⟩:=yY m.z1 (yS (qL9 m.aw m.z1 qW) (qKk m.aw m.z1 qW)) V a5 i;clear f m V a5 i a hq ai e2;go_wp2_with fail;rw[show((wc.setCell ⟨D,2,yB⟩ (qX qm c.room)).setCell ⟨D,3,yB⟩ (qX qm c.clock)).setCell ⟨D,4,yB⟩ (qZ pa (kN c.held) pk)=w5 from a1];clear y0 y1 y2 y3 q3 q6 q0 q1 q2 q4 q5 u0 u1 u2 v0 v1 v2 v3 v4 v5 v6 f2 f3 f4 aj a1;(with_reducible refine H.out.mono ?_);rintro e w6 ⟨d',rfl,hA,p1,p2,p3,p4,I,F⟩;have u:w6.heap[E+1]? =yA (qp #[qY ⟨#[]⟩,qX qm 0] TRp):=(F (E+1) (by have:=L.out;omega) K.out.1 K.out.2).trans a7.out;obtain⟨y0,y1,y2,y3⟩:=qIa u;have F6:=yT (FW lev b n w w6 B D g E d' (rs.set r l.r) _ _) ⟨hA,u,a6.out.trans I,K3.out.lw.be,fun k h1 h2 h3=>(F k (by have:=L.out;omega) h2 h3).trans (O.out k h1 h3)⟩;have HP:=zH (yS p1 (yS p2 (yS p3 p4)));clear u hA p1 p2 p3 p4 I F;go_wp2;have F7:=F6.out.put (qY l.tx) (qX qm l.c);obtain⟨w7,N⟩:=zB (w6.setCells (E+1) 0 [qY l.tx,qX qm l.c]);rw[N]at F7;rw[show(w6.setCell ⟨E+1,0,yB⟩ (qY l.tx)).setCell ⟨E+1,1,yB⟩ (qX qm l.c)=w7 from N];refine qP5 (v:=qg #[qh l.dn,.agg #[qY l.tx,qX qm l.c]]) ?_ rfl ?_
   .exact qIp (t:=2) (p:=3) rfl _ _ _ ⟨E+1,0,yB⟩ _ rfl (qIv F7.z1)
   .rw[<-HE.out]at F7;exact F7.post rfl HP.out.1 HP.out.2.1 HP.out.2.2.1 HP.out.2.2.2
  .have ao:(er==0)=yI:=by simpa using a2
   have hq:=ad.out;rw[qPt a2]at hq;have m:=o.out.lw.gw;have H:=zH (HG.out d rfl rfl wc (qP2 am o.out.lw.bl.size) m.aw);rw[show gets b X d.sh d.dec x s=l from hq.symm]at H;obtain⟨y0,y1,y2,y3⟩:=qIa m.bx;obtain⟨q0,q1,q2,q3,q4,q5,q6⟩:=qH7 f;obtain⟨a7,K,a6,L⟩:=yX m.z1 (yS (qL9 m.aw m.z1 qW) (qKk m.aw m.z1 qW)) o.out.lw.bl o.out.lw.sz;have O:=yT (∀k,k<E->k≠D->wc.heap[k]? =w.heap[k]?) fun k h1 _=>o.out.lw.kp k h1;clear f m hq;go_wp2_with fail
   skip
   clear y0 y1 y2 y3 q3 q6 q0 q1 q2 q4 q5;(with_reducible refine H.out.mono ?_);rintro e w6 ⟨d',rfl,hA,p1,p2,p3,p4,I,F⟩;have u:w6.heap[E+1]? =yA (qp #[qY ⟨#[]⟩,qX qm 0] TRp):=(F (E+1) (by have:=L.out;omega) K.out.1 K.out.2).trans a7.out;obtain⟨y0,y1,y2,y3⟩:=qIa u;have F6:=yT (FW lev b n w w6 B D g E d' (rs.set r l.r) _ _) ⟨hA,u,a6.out.trans I,K3.out.lw.be,fun k h1 h2 h3=>(F k (by have:=L.out;omega) h2 h3).trans (O.out k h1 h3)⟩;have HP:=zH (yS p1 (yS p2 (yS p3 p4)));clear u hA p1 p2 p3 p4 I F;go_wp2;have F7:=F6.out.put (qY l.tx) (qX qm l.c);obtain⟨w7,N⟩:=zB (w6.setCells (E+1) 0 [qY l.tx,qX qm l.c]);rw[N]at F7;rw[show(w6.setCell ⟨E+1,0,yB⟩ (qY l.tx)).setCell ⟨E+1,1,yB⟩ (qX qm l.c)=w7 from N];refine qP5 (v:=qg #[qh l.dn,.agg #[qY l.tx,qX qm l.c]]) ?_ rfl ?_
   .exact qIp (t:=2) (p:=3) rfl _ _ _ ⟨E+1,0,yB⟩ _ rfl (qIv F7.z1)
   .rw[<-HE.out]at F7;exact F7.post rfl HP.out.1 HP.out.2.1 HP.out.2.2.1 HP.out.2.2.2
end Sk
namespace Sk
theorem qMx (w:yC):yG yK 146 #[qX qm 1] w fun e w'=>e=qx (.func (.func 198) #[] #[])/\yM w w w':=by
 go_enter func146,ntmps146;go_wp2;go_ret;exact⟨rfl,(yR _ _).alloc (qPq _) _⟩
theorem qMw (w:yC):yG yK 146 #[qX qm 2] w fun e w'=>e=qx (.func (.func 199) #[] #[])/\yM w w w':=by
 go_enter func146,ntmps146;go_wp2;go_ret;exact⟨rfl,(yR _ _).alloc (qPq _) _⟩
theorem qMv (w:yC):yG yK 146 #[qX qm 3] w fun e w'=>e=qx (.func (.func 200) #[] #[])/\yM w w w':=by
 go_enter func146,ntmps146;go_wp2;go_ret;exact⟨rfl,(yR _ _).alloc (qPq _) _⟩
end Sk
namespace Sk
open Hf Bt Zr Ch Sq Tn Sm Ix2 Sd
open Front (ival)
variable {u v:yD} {w:yC} {B:Nat}
theorem qJc {fn:Func} {t p q u:Tmp} {ty e:yE} (h:fn.results= #[.tmp t,.cell p ty,.cell q e,.tmp u]) (tmps:Array yD) (P:Program) (w:yC) (a b:yF) (v v':yD) (i:tmps.getD p yN=qc (yA a)) (j:tmps.getD q yN=qc (yA b)) (g:(loadVar ty a).run P w= .ok v w) (f:(loadVar e b).run P w= .ok v' w):
  (results fn tmps).run P w= .ok (qg #[tmps.getD t yN,v,v',tmps.getD u yN]) w:=by
 have c:tmps[p]?.getD yN=qc (yA a):=by simpa using i
 have d:tmps[q]?.getD yN=qc (yA b):=by simpa using j
 simp[results,h,c,d,asAddr,g,f,Result.andThen]
theorem Cp.aw {b n X:Nat} {f:List T} {d d':DV} {i:List Rr} (h:Cp b f n X w B d d' i) (k:B<=w.heap.size):∃g,AW b f n (w.alloc (qp d'.cl TDk)) B w.heap.size g d' i:=by
 have e:yM w w (w.alloc (qp d'.cl TDk)):=(yR _ _).alloc (qPq _) _;have a:∃g,d'.rp=yA ⟨g,0,yB⟩:=by
  obtain⟨_,j⟩:=h.own;rcases j with⟨_,o⟩|⟨g',l,m,hv,_⟩
  .have:=h.dk.m1;omega
  .injection hv with ha;exact⟨g',ha⟩
 obtain⟨g,a⟩:=a;exact⟨g,⟨zAh _ _,k,a,by have c:=h.own.below e (qPq _);rw[a]at c;exact c,(Dm.of h.dk).below e⟩⟩
theorem qNq (f n X:Nat) (b:List T) (P:Ps f b n) (t:kN b.flatten=X) (A:Arc f b (zCt f b) n) (z:(zCt f b).size<=100000000) (k:List Rr) (r j:Nat) (x:Rr) (s:k[r]? =yA x) (h:Wk f b n X x j) (H:x.st=3->x.txt=gP b x.b) (a:ByteArray) (G:a=zCt f b) (sh:xE) (y:kC (gP b) n sh):
  ∃F:FuncId,(∀(args:Array yD) (w:yC),(callFunc F args).run yK w= .ok (.enter F args) w)/\(∀w,yG yK 146 #[qX qm (x.st:Int)] w fun e w'=>e=qx (.func (.func F) #[] #[])/\yM w w w')/\
   (∀(B D g:Nat) (d:DV) (w:yC),d.sh=sh->d.a=a->r<d.m->B<=w.heap.size->AW f b n w B D g d k->yG yK F #[.agg #[qc (yA ⟨D,0,yB⟩),r]] w (Post f b n B D g d k r (deed b X d.sh d.dec x) w)):=by
 have c:x.st=1\/x.st=2\/x.st=3:=by have:=h.s1;have:=h.s3;omega
 rcases c with i|i|i
 .refine⟨198,enters_of func198 zf rfl,fun w=>by rw[i];exact qMx w,fun B D g d w p q m l o=>qNf f n X b B D g d k r j x s m P t h i (by rw[p];exact y) w l o⟩
 .refine⟨199,enters_of func199 zf rfl,fun w=>by rw[i];exact qMw w,fun B D g d w p q m l o=>zZq f n X b B D g d k r j x s m P A z (q.trans G) h i w l o⟩
 .refine⟨200,enters_of func200 zf rfl,fun w=>by rw[i];exact qMv w,fun B D g d w p q m l o=>qKc f n X b B D g d k r j x s m P t h i (H i) (by rw[p];exact y) w l o⟩
structure SW3 (w:yC) (E:Nat) (d:DV) (u v:yD) (z:Array yD):Prop where
 b0:w.heap[E]? =yA (qp d.cl TDk)
 b1:w.heap[E+1]? =yA (qp #[u,v] TRp)
 b2:w.heap[E+1+1]? =yA (qp z TDk)
theorem SW3.below {w':yC} {E:Nat} {d:DV} {z:Array yD} (h:SW3 w E d u v z) (a:yM B w w') (b:E+3<=B):SW3 w' E d u v z:=⟨(a.block E za).trans h.b0,(a.block (E+1) za).trans h.b1,(a.block (E+1+1) za).trans h.b2⟩
theorem SW3.start (w:yC) (d:DV):SW3 (((w.alloc (qp d.cl TDk)).alloc (qp #[qY ⟨#[]⟩,qX qm 0] TRp)).alloc (qp ZD TDk)) w.heap.size d (qY ⟨#[]⟩) (qX qm 0) ZD:=
 ⟨(Lib.alloc_old _ _ _ (by simp only[zA];omega)).trans ((Lib.alloc_old _ _ _ (by simp only[zA];omega)).trans (zAh w _)),(Lib.alloc_old _ _ _ (by simp only[zA];omega)).trans (by rw[<-zA w (qp d.cl TDk)];exact zAh _ _),by rw[show w.heap.size+1+1=((w.alloc (qp d.cl TDk)).alloc (qp #[qY ⟨#[]⟩,qX qm 0] TRp)).heap.size from by simp only[zA]];exact zAh _ _⟩
theorem qJs {p q:Nat} {u' v':yD} {a b c d e f g a' b' c' d' e' f' g':yD} (s:w.heap[p]? =yA (qp #[u,v] TRp)) (t:w.heap[q]? =yA (qp #[a,b,c,d,e,f,g] TDk)) (K:∀z∈[u',v'],z.oneCell'=yH) (L:∀z∈[a',b',c',d',e',f',g'],z.oneCell'=yH):
  ∃r w2,(storeVar TRp ⟨p,0,yB⟩ (.agg #[u',v'])).run yK w= .ok () r/\(storeVar TDk ⟨q,0,yB⟩ (.agg #[a',b',c',d',e',f',g'])).run yK r= .ok () w2/\w2.heap[p]? =yA (qp #[u',v'] TRp)/\w2.heap[q]? =yA (qp #[a',b',c',d',e',f',g'] TDk)/\(∀D,D<=p->D<=q->yM D w w2)/\(∀k,k≠p->k≠q->w2.heap[k]? =w.heap[k]?)/\
   (∀{F n X:Nat} {H:List T} {G:DV} {I:List Rr},Dk F H n X w G I->Dk F H n X w2 G I)/\(∀k,k≠p->r.heap[k]? =w.heap[k]?)/\(∀D,D<=p->yM D w r):=by
 obtain⟨r,s1,M,m,N,i⟩:=qKy (u':=u') (v':=v') s K;have hne:q≠p:=fun e=>by
  rw[e,s]at t;exact absurd (qQ6 (qPv t)).2.1 qW
 have l:=(i q hne).trans t;obtain⟨w2,_,s2,z2,o,O,j⟩:=st7 (a':=a') (b':=b') (c':=c') (d':=d') (e':=e') (f':=f') (g':=g') l L;exact⟨r,w2,s1,s2,(j p hne.symm).trans M,z2,fun D x y=>(m D x).trans (o D y),fun k x y=>(j k y).trans (i k x),fun h=>(h.far s qW qW qW i).far l qW qW qW j,i,m⟩
theorem qM5 (m n X:Nat) (b:List T) (P:Ps m b n) (hX:kN b.flatten=X) (A:Arc m b (zCt m b) n) (b2:(zCt m b).size<=100000000) (d:DV) (rs:List Rr) (r j:Nat) (x:Rr) (hx:rs[r]? =yA x) (h:Wk m b n X x j) (ht:x.st=3->x.txt=gP b x.b) (b1:d.a=zCt m b) (b0:okR m b n X (deed b X d.sh d.dec x).r) (w:yC) (hd:Dk m b n X w d rs):
  yG yK 65 #[d.v,r] w fun e w'=>∃d',e=qx (qg #[qh (deed b X d.sh d.dec x).dn,.agg #[qY (deed b X d.sh d.dec x).tx,qX qm (deed b X d.sh d.dec x).c],d'.v,qX qm 0])/\Dk m b n X w' d' (rs.set r (deed b X d.sh d.dec x).r)/\d'.sh=(deed b X d.sh d.dec x).sh/\d'.dec=(deed b X d.sh d.dec x).dec/\d'.a=d.a/\d'.m=d.m/\yM w w w':=by
 obtain⟨F,hF,an,a8⟩:=qNq m n X b P hX A b2 rs r j x hx h ht d.a b1 d.sh ⟨hd.rgt,hd.held⟩;have hr:r<d.m:=by rw[<-hd.rm];exact h_lt hx
 obtain⟨c,a3⟩:=zB (deed b X d.sh d.dec x);rw[a3]at b0⊢;obtain⟨E,hE⟩:=zB w.heap.size;obtain⟨W,hW⟩:=zB (((w.alloc (qp d.cl TDk)).alloc (qp #[qY ⟨#[]⟩,qX qm 0] TRp)).alloc (qp ZD TDk));have S:=SW3.start w d;rw[hW,hE]at S;have a7:yM E w W:=by rw[<-hW,<-hE];exact(((yR _ _).alloc (qPq _) _).alloc (by simp only[zA];omega) _).alloc (by simp only[zA];omega) _
 have aj:W.heap.size=E+3:=by rw[<-hW];simp only[zA];omega
 obtain⟨HC,HO,S0,B0,Z0,HE,HW,HQ,b5⟩:=yj (zCk m n X b P hX d rs r hr W (hd.below (by rw[hE];exact a7))) (fun w' (ba:yM E w w')=>qKp m n X b d rs w' (hd.below (by rw[hE];exact ba)) P.many) S a7 aj hE hW a3 a8;obtain⟨ag,aq,HD,b3⟩:=yX an b0 hd hx;have f:=S.b0;unfold DV.cl at f;obtain⟨y0,y1,y2,y3,y4,y5,y6⟩:=qH7 f;rw[hE];clear P hX A b2 b1 ht h hx S a7 aj hE hW a3 a8 an b0 hd f;unfold DV.v at HC⊢;unfold DV.cl at HC HW⊢;go_enter func65,ntmps65;go_wp2_with fail;rw[HE.out,show((w.alloc (qp #[qY d.a,qZ d.ip d.n d.ic,qX qm d.sh.room,qX qm d.sh.clock,qZ d.sa (kN d.sh.held) d.sk,qZ d.rp d.m d.rc,qX qm (d.dec:Int)] TDk)).alloc (qp #[qY ⟨#[]⟩,qX qm 0] TRp)).alloc (qp ZD TDk)=W from HW.out];(with_reducible refine HC.out.mono ?_);rintro e w1 ⟨rfl,a0⟩;have S1:=zH (S0.out.below a0 (by rw[Z0.out];exact qPq _));have B1:=yT (yM E w w1/\E+3<=w1.heap.size) ⟨B0.out.trans (a0.mono (by rw[Z0.out];omega)),by have:=a0.size;rw[Z0.out]at this;exact this⟩;have a4:=zH (HO.out w1 B1.out.1);have f:=S1.out.b0;unfold DV.cl at f;clear a0 HC y0 y1 y2 y3 y4 y5 y6;obtain⟨y0,y1,y2,y3,y4,y5,y6⟩:=qH7 f;unfold DV.v DV.cl at a4;clear f;go_wp2_with fail;(with_reducible refine a4.out.mono ?_);rintro e w2 ⟨d',rfl,k,I⟩;obtain⟨g,i⟩:=k.aw I.size;have a1:d'.cl= #[qY d'.a,qZ d'.ip d'.n d'.ic,qX qm d'.sh.room,qX qm d'.sh.clock,qZ d'.sa (kN d'.sh.held) d'.sk,qZ (yA ⟨g,0,yB⟩) d'.m d'.rc,qX qm (d'.dec:Int)]:=by unfold DV.cl;rw[i.rp]
 obtain⟨w3,s⟩:=zB (w2.alloc (qp d'.cl TDk));obtain⟨D,hD⟩:=zB w2.heap.size;obtain⟨B,hB⟩:=zB w1.heap.size;rw[s,hD,hB]at i;have ao:yM B w1 w3/\B<=w3.heap.size:=⟨by rw[<-s,<-hB];exact I.alloc I.size _,by rw[<-s,zA,<-hB];have:=I.size;omega⟩;obtain⟨ac,N,o⟩:=yV i ao (yS k.ea (yS k.es (yS k.em k.ed)));have l:=yT (E+3<=B) (by rw[<-hB];exact B1.out.2);have hm:r<d'.m:=by rw[k.em];exact hr
 have ay:=i.dm.rc;have b8:=i.dm.m8;have f:=i.blk;rw[a1]at f;have c5:=(qH7 f).2.2.2.2.2.1;have x0:=(i.at r x b3.out).1;obtain⟨ai,a2,b6,bc⟩:=yX (ag.out w3) s hD a1;rw[a1]at a2;have aa:=i.rp;clear y0 y1 y2 y3 y4 y5 y6 a4 k I i s hD ao f a1;rw[aa];rw[<-a2.out]at x0;clear aa c5;go_wp2_with fail;rw[b6.out,show w2.alloc (qp #[qY d'.a,qZ d'.ip d'.n d'.ic,qX qm d'.sh.room,qX qm d'.sh.clock,qZ d'.sa (kN d'.sh.held) d'.sk,qZ (yA ⟨g,0,yB⟩) d'.m d'.rc,qX qm (d'.dec:Int)] TDk)=w3 from a2.out];clear x0;(with_reducible refine ai.out.mono ?_);rintro e w4 ⟨rfl,Y⟩;have ad:=zH (ac.out.below Y);have H:=yT (yM B w1 w4/\B<=w4.heap.size) ⟨N.out.1.trans (Y.mono N.out.2),qP2 N.out.2 Y.size⟩;have a5:=zH (b5.out B D g d' w4 o.out.2.1 o.out.1 hm H.out.2 ad.out);rw[show deed b X d'.sh d'.dec x=c by rw[o.out.2.1,o.out.2.2.2];exact HQ.out]at a5;clear Y ac N ai HO ag hm ay b8;go_wp2_with fail;(with_reducible refine a5.out.mono ?_);rintro e z ⟨a,rfl,R,p1,p2,p3,p4,V,ar⟩;have a6:∀y∈rs.set r c.r,okR m b n X y:=fun y hy=>by
  rcases List.mem_or_eq_of_mem_set hy with h1|h1
  .exact HD.out.okr y h1
  .rw[h1];exact aq.out
 have ak:=R.dk a6;have S5:=(S1.out.below H.out.1 l.out).below V l.out;have B5:yM E w z/\E+3<=z.heap.size:=⟨(B1.out.1.trans (H.out.1.mono (by have:=l.out;omega))).trans (V.mono (by have:=l.out;omega)),by have:=V.size;have:=H.out.2;have:=l.out;omega⟩;obtain⟨Z,hZ⟩:=zB z.heap.size;obtain⟨w6,K⟩:=zB ((z.alloc (qp #[qY c.tx,qX qm c.c] TRp)));have G:yM z z w6.drew:=by rw[<-K];exact((yR _ _).alloc (qPq _) _).drew
 have LZ:=yT ((loadVar TRp ⟨Z,0,yB⟩).run yK w6.drew= .ok (.agg #[qY c.tx,qX qm c.c]) w6.drew) (qIv (by rw[<-K,<-hZ];exact zAh z _));have M:=hkeep R.blk G;unfold DV.cl at M;have LD:=zH (fun(W9:yC) (h:W9.heap[D]? =yA (qp #[qY a.a,qZ a.ip a.n a.ic,qX qm a.sh.room,qX qm a.sh.clock,qZ a.sa (kN a.sh.held) a.sk,qZ a.rp a.m a.rc,qX qm (a.dec:Int)] TDk))=>ld7 h);have S6:=S5.below G za;obtain⟨w7,w8,af,ah,am,ae,ab,ap,a9,L,bb⟩:=qJs (u':=qY c.tx) (v':=qX qm c.c) (a':=qY a.a) (b':=qZ a.ip a.n a.ic) (c':=qX qm a.sh.room) (d':=qX qm a.sh.clock) (e':=qZ a.sa (kN a.sh.held) a.sk) (f':=qZ a.rp a.m a.rc) (g':=qX qm (a.dec:Int)) S6.b1 S6.b2 (by simp[Value.oneCell']) (by simp[Value.oneCell']);have b9:=zH (a9 (ak.below G));have av:=yT (yM E w w8) ((B5.1.trans (G.mono za)).trans (ab E za za));have O:=yT (a.sh=c.sh/\a.dec=c.dec/\a.a=d.a/\a.m=d.m) ⟨p1,p2,p3.trans o.out.1,p4.trans o.out.2.2.1⟩;obtain⟨az,ax,au,b4,R1,R2,HZ,b7⟩:=yh M ((L D (by have:=R.lo;have:=l.out;omega)).trans M) af ah (qIv am) (ld7 ae) hZ K;clear R p1 p2 p3 p4 V ar a6 ak S5 B5 hZ K G S6 af ah am ae ab ap a9 a5 ad H L M;go_wp2;rw[HZ.out,show z.alloc (qp #[qY c.tx,qX qm c.c] TRp)=w6 from b7.out];refine zS [5] (fun W9=>W9.heap[D]? =yA (qp #[qY a.a,qZ a.ip a.n a.ic,qX qm a.sh.room,qX qm a.sh.clock,qZ a.sa (kN a.sh.held) a.sk,qZ a.rp a.m a.rc,qX qm (a.dec:Int)] TDk)) [0,0,0,1,11,31,63] 7<|zy 2 37 (.agg #[qY a.a,qZ a.ip a.n a.ic,qX qm a.sh.room,qX qm a.sh.clock,qZ a.sa (kN a.sh.held) a.sk,qZ a.rp a.m a.rc,qX qm (a.dec:Int)]) (fun w hS=>zl 39 9 (LD.out w hS)) az.out<|zp [0,1,3]<|zk 35 (qh c.dn)<|zt 36 (.agg #[qY c.tx,qX qm c.c]) (zl 44 11 (LZ.out))<|zk 4 (qh c.dn)<|zn<|zw 4 yB (zr 44 5 36 (au.out)) (qy (qy (ax.out)))<|zw 5 yB (zr 39 6 37 (b4.out)) (qy (qz zf))<|zp [6]<|zk 7 (qX qm 0)<|zn<|zE<| ?_
 simp only[zP,zI,Act.put,qPx,qPw,qPy];go_wp2;refine qP5 (v:=qg #[qh c.dn,.agg #[qY c.tx,qX qm c.c],.agg #[qY a.a,qZ a.ip a.n a.ic,qX qm a.sh.room,qX qm a.sh.clock,qZ a.sa (kN a.sh.held) a.sk,qZ a.rp a.m a.rc,qX qm (a.dec:Int)],qX qm 0]) ?_ rfl ?_
 .exact qJc (t:=4) (p:=5) (q:=6) (u:=7) rfl _ _ _ ⟨E+1,0,yB⟩ ⟨E+1+1,0,yB⟩ _ _ rfl rfl R1.out R2.out
 .exact⟨a,rfl,b9.out,O.out.1,O.out.2.1,O.out.2.2.1,O.out.2.2.2,av.out⟩
end Sk
namespace Sk
open Hf Bt Zr Wg Tn Sm Ix2
open Front (ival)
@[irreducible] def qI8 (X:Nat) (sh:xE) (dec o m:Nat) (a b:Int):Dd:=
 if a<0 then⟨sh,dec,free,yH,⟨#[]⟩,if X<o+m then 8 else 0⟩else⟨sh,dec,⟨1,o,m,a.toNat,b.toNat,⟨#[]⟩,⟨#[]⟩⟩,yI,⟨#[]⟩,0⟩
theorem qOs {d n X:Nat} {c:List T} (P:Ps d c n) (h:kN c.flatten=X) {o m:Nat} {a b:Int} (hv:Cov c n X o m a b) (p:m<1048576) (sh:xE) (dec:Nat) (q:kC (gP c) n sh) (f:dec<=1099511627776):okR d c n X (qI8 X sh dec o m a b).r:=by
 unfold qI8;rcases hv with⟨_,e,_⟩|⟨e,g,j,l,rfl,rfl,i,k⟩
 .rw[qPr za];exact qz rfl
 .rw[qPt za];refine qy ⟨j,?_⟩;have:=(J.start (sh:=sh) (dec:=dec) q f e p g i k h P).wk;simpa using this
theorem qOd (b0 n X:Nat) (z:List T) (P:Ps b0 z n) (hX:kN z.flatten=X) (d:DV) (rs:List Rr) (r o m:Nat) (a b:Int) (hx:rs[r]? =yA free) (hv:Cov z n X o m a b) (ho:o<=100000000) (hm:m<1048576) (w:yC) (hd:Dk b0 z n X w d rs):
  yG yK 64 #[d.v,r,o,m] w fun e w'=>∃d',e=qx (qg #[qh (qI8 X d.sh d.dec o m a b).dn,.agg #[qY (qI8 X d.sh d.dec o m a b).tx,qX qm (qI8 X d.sh d.dec o m a b).c],d'.v,qX qm 0])/\Dk b0 z n X w' d' (rs.set r (qI8 X d.sh d.dec o m a b).r)/\d'.sh=d.sh/\d'.dec=d.dec/\d'.a=d.a/\d'.m=d.m/\yM w w w':=by
 have ae:=qOs P hX hv hm d.sh d.dec ⟨hd.rgt,hd.held⟩ hd.dec;have hr:r<d.m:=by rw[<-hd.rm];exact h_lt hx
 have c8:=hd.rc;have c7:=hd.m8;obtain⟨g0,f0,L,b5⟩:=hd.rdr r free hx;have an:w.cell? ⟨g0,f0+r*7,yB⟩=yA (qX qm 0):=b5 0 qW;obtain⟨qd,ap⟩:=zB (qI8 X d.sh d.dec o m a b);rw[ap]at ae⊢;obtain⟨E,hE⟩:=zB w.heap.size;obtain⟨W,hW⟩:=zB (((w.alloc (qp d.cl TDk)).alloc (qp #[qY ⟨#[]⟩,qX qm 0] TRp)).alloc (qp ZD TDk));have a5:=SW3.start w d;rw[hW,hE]at a5;have ak:yM E w W:=by rw[<-hW,<-hE];exact(((yR _ _).alloc (qPq _) _).alloc (by simp only[zA];omega) _).alloc (by simp only[zA];omega) _
 have b4:W.heap.size=E+3:=by rw[<-hW];simp only[zA];omega
 obtain⟨HC,HO,HV⟩:=yV (zCk b0 n X z P hX d rs r hr W (hd.below (by rw[hE];exact ak))) (fun w' (b1:yM E w w')=>qKp b0 n X z d rs w' (hd.below (by rw[hE];exact b1)) P.many) (fun w' (b1:yM E w w')=>qKw b0 n z P d.ip d.ic o m a b w' (hd.idx.below (by rw[hE];exact b1) rfl) hd.ic hX hv ho za);rw[show n=d.n from hd.en.symm]at HV;obtain⟨Y,b7,bi,S0,B0,Z0,HE,HW,HQ⟩:=yj (fun w' (b1:yM E w w')=>qLe b0 n X z P hX d hd.en hd.ic o m ho za w' (hd.idx.below (by rw[hE];exact b1) rfl)) (fun w'=>qKm o m ho hm w') (fun(w':yC) (b1:yM E w w')=>(b1.cell (p:=⟨g0,f0+r*7,yB⟩) (by rw[<-hE];exact qQk an)).trans an) a5 ak b4 hE hW ap;obtain⟨bq,HD,bh,ar⟩:=yX ae hd hv hx;have f:=a5.b0;unfold DV.cl at f;rw[L]at f;obtain⟨y0,y1,y2,y3,y4,y5,y6⟩:=qH7 f;rw[hE];clear P hX a5 ak b4 hE hW ap ae hd f hx hv b5 an;unfold DV.v at HC Y⊢;unfold DV.cl at HC Y HW⊢;rw[L]at HC HW Y⊢;go_enter func64,ntmps64;go_wp2_with fail;rw[HE.out,show((w.alloc (qp #[qY d.a,qZ d.ip d.n d.ic,qX qm d.sh.room,qX qm d.sh.clock,qZ d.sa (kN d.sh.held) d.sk,qZ (yA ⟨g0,f0,yB⟩) d.m d.rc,qX qm (d.dec:Int)] TDk)).alloc (qp #[qY ⟨#[]⟩,qX qm 0] TRp)).alloc (qp ZD TDk)=W from HW.out];(with_reducible refine HC.out.mono ?_);rintro e w1 ⟨rfl,ac⟩;have S1:=zH (S0.out.below ac (by rw[Z0.out];exact qPq _));have B1:=yT (yM E w w1/\E+3<=w1.heap.size) ⟨B0.out.trans (ac.mono (by rw[Z0.out];omega)),by have:=ac.size;rw[Z0.out]at this;exact this⟩;have a4:=zH (HO.out w1 B1.out.1);have f:=S1.out.b0;have x0:=bi.out w1 B1.out.1;unfold DV.cl at f;rw[L]at f;clear ac HC y0 y1 y2 y3 y4 y5 y6;obtain⟨y0,y1,y2,y3,y4,y5,y6⟩:=qH7 f;unfold DV.v DV.cl at a4;rw[L]at a4;clear f;go_wp2_with fail;(with_reducible refine(b7.out _).mono ?_);rintro e w2 ⟨rfl,rfl⟩;clear x0 b7;go_wp2_with fail;(with_reducible refine a4.out.mono ?_);rintro e w3 ⟨d',rfl,F,V⟩;obtain⟨g,Z⟩:=F.aw V.size;have ax:d'.cl= #[qY d'.a,qZ d'.ip d'.n d'.ic,qX qm d'.sh.room,qX qm d'.sh.clock,qZ d'.sa (kN d'.sh.held) d'.sk,qZ (yA ⟨g,0,yB⟩) d'.m d'.rc,qX qm (d'.dec:Int)]:=by unfold DV.cl;rw[Z.rp]
 obtain⟨w4,S⟩:=zB (w3.alloc (qp d'.cl TDk));obtain⟨D,hD⟩:=zB w3.heap.size;obtain⟨B,hB⟩:=zB w2.heap.size;rw[S,hD,hB]at Z;have av:yM B w2 w4/\B<=w4.heap.size:=⟨by rw[<-S,<-hB];exact V.alloc V.size _,by rw[<-S,zA,<-hB];have:=V.size;omega⟩;obtain⟨bg,N,G⟩:=yV Z av (yS F.ea (yS F.es (yS F.em F.ed)));have s:=yT (E+3<=B) (by rw[<-hB];exact B1.out.2);have bk:r<d'.m:=by rw[F.em];exact hr
 have a1:=Z.rp;obtain⟨b8,b3,af,br,ab⟩:=yY (HV.out w4 (B1.out.1.trans (av.1.mono (by have:=s.out;omega)))) (F.dk.okr) S hD ax;rw[ax]at af;clear F V Z S hD av ax a4 y0 y1 y2 y3 y4 y5 y6 HO HV;have S3:=yT (SW3 (w3.alloc (qp d'.cl TDk)) E d (qY ⟨#[]⟩) (qX qm 0) ZD) (by rw[show w3.alloc (qp d'.cl TDk)=w4 by rw[ab.out];exact af.out];exact S1.out.below N.out.1 s.out);rw[ab.out]at S3;have f:=S3.out.b0;unfold DV.cl at f;rw[L]at f;obtain⟨y0,y1,y2,y3,y4,y5,y6⟩:=qH7 f;clear f;rw[a1];go_wp2_with fail;rw[br.out,show w3.alloc (qp #[qY d'.a,qZ d'.ip d'.n d'.ic,qX qm d'.sh.room,qX qm d'.sh.clock,qZ d'.sa (kN d'.sh.held) d'.sk,qZ (yA ⟨g,0,yB⟩) d'.m d'.rc,qX qm (d'.dec:Int)] TDk)=w4 from af.out];(with_reducible refine b8.out.mono ?_);rintro e w5 ⟨rfl,a0⟩;have K:=zH (bg.out.below a0);have b9:SW3 w4 E d (qY ⟨#[]⟩) (qX qm 0) ZD:=S1.out.below N.out.1 s.out;have S5:=zH (b9.below (a0.mono N.out.2) s.out);have B5:=yT (yM E w w5/\B<=w5.heap.size) ⟨B1.out.1.trans ((N.out.1.trans (a0.mono N.out.2)).mono (by have:=s.out;omega)),qP2 N.out.2 a0.size⟩;have ag:=K.out.blk;rw[ab.out]at ag;obtain⟨aj,LD⟩:=yU ag (fun(c:yC) (h:c.heap[D]? =yA (qp #[qY d'.a,qZ d'.ip d'.n d'.ic,qX qm d'.sh.room,qX qm d'.sh.clock,qZ d'.sa (kN d'.sh.held) d'.sk,qZ (yA ⟨g,0,yB⟩) d'.m d'.rc,qX qm (d'.dec:Int)] TDk))=>ld7 h);clear a0 b9 S3 b8 y0 y1 y2 y3 y4 y5 y6 ag;have M:=HQ.out;unfold qI8 at M;rcases bh.out with⟨_,rfl,rfl⟩|⟨h1,h2,j,l,rfl,rfl,hj,hl⟩
 .rw[qPr za]at M;obtain⟨cc,bb⟩:∃cc:Int,(if X<o+m then 8 else 0)=cc:=⟨_,rfl⟩;rw[bb]at M Y;subst M;have c6:((-1:Int)<0)=True:=by simp
  have ba:rs.set r free=rs:=by
   apply qRt;intro i;rw[qSu];split
   .next e=>subst e;rw[qPr (h_lt ar.out),ar.out]
   .rfl
  have bu:=zH ba;clear ba bb;go_wp2;have a9:=S5.out.b0;unfold DV.cl at a9;rw[L]at a9;have am:=yT (w5.drew.heap[E]? =_) a9;have ao:=yT (w5.drew.heap[D]? =_) aj.out;obtain⟨LE,bj⟩:=yU (fun(c:yC) (h:c.heap[E]? =yA (qp #[qY d.a,qZ d.ip d.n d.ic,qX qm d.sh.room,qX qm d.sh.clock,qZ d.sa (kN d.sh.held) d.sk,qZ (yA ⟨g0,f0,yB⟩) d.m d.rc,qX qm (d.dec:Int)] TDk)/\c.heap[D]? =yA (qp #[qY d'.a,qZ d'.ip d'.n d'.ic,qX qm d'.sh.room,qX qm d'.sh.clock,qZ d'.sa (kN d'.sh.held) d'.sk,qZ (yA ⟨g,0,yB⟩) d'.m d'.rc,qX qm (d'.dec:Int)] TDk))=>ld7 h.1) (fun(c:yC) (h:c.heap[E]? =yA (qp #[qY d.a,qZ d.ip d.n d.ic,qX qm d.sh.room,qX qm d.sh.clock,qZ d.sa (kN d.sh.held) d.sk,qZ (yA ⟨g0,f0,yB⟩) d.m d.rc,qX qm (d.dec:Int)] TDk)/\c.heap[D]? =yA (qp #[qY d'.a,qZ d'.ip d'.n d'.ic,qX qm d'.sh.room,qX qm d'.sh.clock,qZ d'.sa (kN d'.sh.held) d'.sk,qZ (yA ⟨g,0,yB⟩) d'.m d'.rc,qX qm (d'.dec:Int)] TDk))=>ld7 h.2);clear a9;refine zS [8] (fun c=>c.heap[E]? =yA (qp #[qY d.a,qZ d.ip d.n d.ic,qX qm d.sh.room,qX qm d.sh.clock,qZ d.sa (kN d.sh.held) d.sk,qZ (yA ⟨g0,f0,yB⟩) d.m d.rc,qX qm (d.dec:Int)] TDk)/\c.heap[D]? =yA (qp #[qY d'.a,qZ d'.ip d'.n d'.ic,qX qm d'.sh.room,qX qm d'.sh.clock,qZ d'.sa (kN d'.sh.held) d'.sk,qZ (yA ⟨g,0,yB⟩) d'.m d'.rc,qX qm (d'.dec:Int)] TDk)) [0,0,0,7,8,0,8,95,255,511] 10<|zy 5 59 (.agg #[qY d'.a,qZ d'.ip d'.n d'.ic,qX qm d'.sh.room,qX qm d'.sh.clock,qZ d'.sa (kN d'.sh.held) d'.sk,qZ (yA ⟨g,0,yB⟩) d'.m d'.rc,qX qm (d'.dec:Int)]) (fun w hS=>zl 39 13 (bj.out w hS)) (yS am.out ao.out)<|zp [0,1,2]<|zt 54 (.agg #[qY d.a,qZ d.ip d.n d.ic,qX qm d.sh.room,qX qm d.sh.clock,qZ d.sa (kN d.sh.held) d.sk,qZ (yA ⟨g0,f0,yB⟩) d.m d.rc,qX qm (d.dec:Int)]) ((fun w hS=>zl 39 4 (LE.out w hS)) _ (yS am.out ao.out))<|zk 55 (zI o)<|zk 56 (zI m)<|zn<|zx 3 57 145 #[.agg #[qY d.a,qZ d.ip d.n d.ic,qX qm d.sh.room,qX qm d.sh.clock,qZ d.sa (kN d.sh.held) d.sk,qZ (yA ⟨g0,f0,yB⟩) d.m d.rc,qX qm (d.dec:Int)],qX qm (o:Int),qX qm (m:Int)] (Y.out w5.drew B5.out.1.drew)<| ?_
  rintro e w6 ⟨rfl,I⟩;have R:yM w5 w5 w6:=(yR _ _).drew.trans I;have S6:=S5.out.below R (by have:=s.out;have:=B5.out.2;omega);obtain⟨w7,w8,a8,a3,aa,a7,a6,au,O,x,bc⟩:=qJs (u':=qY ⟨#[]⟩) (v':=qX qm cc) (a':=qY d'.a) (b':=qZ d'.ip d'.n d'.ic) (c':=qX qm d'.sh.room) (d':=qX qm d'.sh.clock) (e':=qZ d'.sa (kN d'.sh.held) d'.sk) (f':=qZ (yA ⟨g,0,yB⟩) d'.m d'.rc) (g':=qX qm (d'.dec:Int)) S6.b1 S6.b2 (by simp[Value.oneCell']) (by simp[Value.oneCell']);have b6:=hkeep aj.out R;have ay:=hkeep am.out I;have az:=K.out.lo;have bz:=s.out;refine⟨_,rfl,qy (qy (yS ay b6)),?_⟩;refine zp [4,6]<|zk 58 (.agg #[qY ⟨#[]⟩,qX qm cc])<|zk 8 (qh yH)<|zn<|zw 7 yB (zr 44 9 58 (a8)) (qy (qy (yS ((x E za).trans ay) ((x D za).trans b6))))<|zw 8 yB (zr 39 10 59 (a3)) (qy (qz zf))<|zp [9]<|zk 11 (qX qm 0)<|zn<|zE<| ?_
  simp only[zP,zI,Act.put,qPx,qPw,qPy];go_wp2;refine qP5 (v:=qg #[qh yH,.agg #[qY ⟨#[]⟩,qX qm cc],.agg #[qY d'.a,qZ d'.ip d'.n d'.ic,qX qm d'.sh.room,qX qm d'.sh.clock,qZ d'.sa (kN d'.sh.held) d'.sk,qZ (yA ⟨g,0,yB⟩) d'.m d'.rc,qX qm (d'.dec:Int)],qX qm 0]) ?_ rfl ?_
  .exact qJc (t:=8) (p:=9) (q:=10) (u:=11) rfl _ _ _ ⟨E+1,0,yB⟩ ⟨E+1+1,0,yB⟩ _ _ rfl rfl (qIv aa) (ld7 a7)
  .refine⟨d',?_,?_,G.out.2.1,G.out.2.2.2,G.out.1,G.out.2.2.1,?_⟩
   .rw[a1]
   .rw[bu.out];exact O ((K.out.dk b3.out).below R)
   .exact(B5.out.1.trans (R.mono (by have:=B5.out.2;omega))).trans (a6 E za za)
 .rw[qPt za,Int.toNat_natCast,Int.toNat_natCast]at M;subst M;obtain⟨q0,q1,q2,q3,q4,q5,q6⟩:=K.out.at r free ar.out;obtain⟨bx,k⟩:=K.out.row;have p0:=qH9 k (r*7);have p1:=qH9 k (r*7+1);have p2:=qH9 k (r*7+2);have p3:=qH9 k (r*7+3);have p4:=qH9 k (r*7+4);have p5:=qH9 k (r*7+5);have p6:=qH9 k (r*7+6);obtain⟨_,H,I,bn⟩:=K.out.set r bk ⟨1,o,m,j,l,⟨#[]⟩,⟨#[]⟩⟩;obtain⟨w6,ad⟩:=zB (w5.setCells g (r*7) (LRr.cl (⟨1,o,m,j,l,⟨#[]⟩,⟨#[]⟩⟩:Rr)));rw[ad]at H I;have c5:=(qH7 aj.out).2.2.2.2.2.1;have bw:=H.dm.rc;have b2:=H.dm.m8;have ah:∀y∈rs.set r ⟨1,o,m,j,l,⟨#[]⟩,⟨#[]⟩⟩,okR b0 z n X y:=fun y hy=>by
   rcases List.mem_or_eq_of_mem_set hy with h1|h1
   .exact b3.out y h1
   .rw[h1];exact bq.out
  have S6:=S5.out.below (I.drew) s.out;have a2:=H.blk;rw[ab.out]at a2;have ai:=yT (w6.drew.heap[D]? =_) a2;obtain⟨w7,w8,a8,a3,aa,a7,a6,au,O,x,bc⟩:=qJs (u':=qY ⟨#[]⟩) (v':=qX qm 0) (a':=qY d'.a) (b':=qZ d'.ip d'.n d'.ic) (c':=qX qm d'.sh.room) (d':=qX qm d'.sh.clock) (e':=qZ d'.sa (kN d'.sh.held) d'.sk) (f':=qZ (yA ⟨g,0,yB⟩) d'.m d'.rc) (g':=qX qm (d'.dec:Int)) S6.b1 S6.b2 (by simp[Value.oneCell']) (by simp[Value.oneCell']);have az:=H.lo;have bd:=zH ((x D (by have:=s.out;omega)).trans ai.out);have aq:=yT (Dk b0 z n X w8 d' (rs.set r ⟨1,o,m,j,l,⟨#[]⟩,⟨#[]⟩⟩)/\yM E w w8) ⟨O ((H.dk ah).below (yR _ _).drew),(B5.out.1.trans ((I.drew).mono (by have:=s.out;omega))).trans (a6 E za za)⟩;obtain⟨bf,bo,R1,R2,bp⟩:=yY a8 a3 (qIv aa) (ld7 a7) ad;clear k H I bn ad ah S6 a2 a8 a3 aa a7 a6 au O x az;go_wp2;clear q0 q1 q2 q3 q4 q5 q6 p0 p1 p2 p3 p4 p5 p6 c5;rw[show(((((((w5.setCell ⟨g,r*7,yB⟩ (qX qm 1)).setCell ⟨g,r*7+1,yB⟩ (qX qm (o:Int))).setCell ⟨g,r*7+2,yB⟩ (qX qm (m:Int))).setCell ⟨g,r*7+3,yB⟩ (qX qm (j:Int))).setCell ⟨g,r*7+4,yB⟩ (qX qm (l:Int))).setCell ⟨g,r*7+5,yB⟩ (qY ⟨#[]⟩)).setCell ⟨g,r*7+6,yB⟩ (qY ⟨#[]⟩))=w6 from bp.out];refine zS [4] (fun c=>c.heap[D]? =yA (qp #[qY d'.a,qZ d'.ip d'.n d'.ic,qX qm d'.sh.room,qX qm d'.sh.clock,qZ d'.sa (kN d'.sh.held) d'.sk,qZ (yA ⟨g,0,yB⟩) d'.m d'.rc,qX qm (d'.dec:Int)] TDk)) [0,0,0,5,15,31] 6<|zy 1 70 (.agg #[qY d'.a,qZ d'.ip d'.n d'.ic,qX qm d'.sh.room,qX qm d'.sh.clock,qZ d'.sa (kN d'.sh.held) d'.sk,qZ (yA ⟨g,0,yB⟩) d'.m d'.rc,qX qm (d'.dec:Int)]) (fun w hS=>zl 39 13 (LD.out w hS)) ai.out<|zp [0,2]<|zk 69 (.agg #[qY ⟨#[]⟩,qX qm 0])<|zk 8 (qh yI)<|zn<|zw 3 yB (zr 44 9 69 (bf.out)) (qy (qy (bd.out)))<|zw 4 yB (zr 39 10 70 (bo.out)) (qy (qz zf))<|zp [5]<|zk 11 (qX qm 0)<|zn<|zE<| ?_
  simp only[zP,zI,Act.put,qPx,qPw,qPy];go_wp2;refine qP5 (v:=qg #[qh yI,.agg #[qY ⟨#[]⟩,qX qm 0],.agg #[qY d'.a,qZ d'.ip d'.n d'.ic,qX qm d'.sh.room,qX qm d'.sh.clock,qZ d'.sa (kN d'.sh.held) d'.sk,qZ (yA ⟨g,0,yB⟩) d'.m d'.rc,qX qm (d'.dec:Int)],qX qm 0]) ?_ rfl ?_
  .exact qJc (t:=8) (p:=9) (q:=10) (u:=11) rfl _ _ _ ⟨E+1,0,yB⟩ ⟨E+1+1,0,yB⟩ _ _ rfl rfl R1.out R2.out
  .exact⟨d',by rw[a1],aq.out.1,G.out.2.1,G.out.2.2.2,G.out.1,G.out.2.2.1,aq.out.2⟩
end Sk
namespace Sk
open Hf Bt Zr Wg Ch Sq Tn Sm Ix2 Sd
open Front (ival)
variable {lev n X o m:Nat} {a b:Int}
structure RF (ps:List T) (n:Nat) (sh0:xE) (dec0:Nat) (a b:Int) (sh:xE) (dec:Nat):Prop where
 room:sh.room=sh0.room
 wo:Wo n sh0 dec0->sh0.clock+1001<=1099511627776->dec0<=1000->sh.clock<=sh0.clock+1001/\Wo n sh dec/\(∀k,xu sh0 k->xu sh k)/\(∀k:Nat,0<=a->a<=(k:Int)->(k:Int)<=b->xu sh k)/\((∀k:Nat,0<=a->a<=(k:Int)->(k:Int)<=b->xu sh0 k)->dec=dec0)
def At8 (lev:Nat) (c:List T) (n X:Nat) (e:xE) (d o m:Nat) (a b:Int) (q:Dd) (k:Nat):Prop:=
 (q.dn=yI/\∃j l:Nat,a=(j:Int)/\b=(l:Int)/\J lev c n X e d o m j l q.sh q.dec q.r/\meas q.r<k)\/
 (q.dn=yH/\q.r=free/\q.tx=xB ((c.flatten.drop o).take m)/\q.c=(if X<o+m then 8 else 0)/\RF c n e d a b q.sh q.dec)
theorem At8.start {c:List T} (P:Ps lev c n) (q:kN c.flatten=X) (hv:Cov c n X o m a b) (s:m<1048576) (sh:xE) (dec:Nat) (t:kC (gP c) n sh) (i:dec<=1099511627776):At8 lev c n X sh dec o m a b (qI8 X sh dec o m a b) 100000:=by
 unfold qI8;rcases hv with⟨u,rfl,rfl⟩|⟨d,f,j,l,rfl,rfl,r,h⟩
 .rw[qPr za];refine qy ⟨rfl,rfl,?_,rfl,rfl,fun d f p=>⟨by show sh.clock<=_;omega,d,fun k g=>g,fun k g=>za,fun _=>rfl⟩⟩;have e:(c.flatten.drop o).take m=[]:=by
   apply qQ0;rw[qQh,qQo];omega
  rw[e];exact Rle.qCh []
 .rw[qPt za];refine qz ⟨rfl,j,l,rfl,rfl,?_,?_⟩
  .have:=J.start (sh:=sh) (dec:=dec) t i d s f r h q P;simpa using this
  .have p:=h.lt;have w:=P.many;unfold meas;simp only[Int.toNat_natCast];omega
theorem At8.step {d:List T} (P:Ps lev d n) (B:kN d.flatten=X) {t:xE} {s:Nat} {q:Dd} {k:Nat} (h:At8 lev d n X t s o m a b q k) (H:q.dn=yI):∃w,w<k/\At8 lev d n X t s o m a b (deed d X q.sh q.dec q.r) w/\okR lev d n X (deed d X q.sh q.dec q.r).r/\(∃j,Wk lev d n X q.r j)/\(q.r.st=3->q.r.txt=gP d q.r.b):=by
 rcases h with⟨_,j,l,rfl,rfl,e,G⟩|⟨h,_⟩
 .refine⟨meas q.r,G,?_⟩;rcases e.next P B with⟨i,f,p⟩|⟨i,f,p,z,r⟩
  .exact⟨qz ⟨i,j,l,rfl,rfl,f,p⟩,qy ⟨j,f.wk⟩,⟨j,e.wk⟩,e.txt⟩
  .refine⟨qy ⟨i,f,p,z,r.room,fun u x y=> ?_⟩,qz f,⟨j,e.wk⟩,e.txt⟩;have g:=r.wo u x y;have c1:=g.clk;have c:=e.wk.lst.lt;rw[e.el]at c;have L:=P.many;exact⟨za,⟨by rw[r.room];exact u.room,by have:=g.cnt;omega⟩,g.old,fun k _ I K=>g.new k za za,fun F=>g.idle (fun k I K=>F k za za za)⟩
 .rw[H]at h;cases h
theorem qLi {fn:Func} {p q u:Tmp} {ty e:yE} (h:fn.results= #[.cell p ty,.cell q e,.tmp u]) (tmps:Array yD) (P:Program) (w:yC) (a b:yF) (v v':yD) (i:tmps.getD p yN=qc (yA a)) (j:tmps.getD q yN=qc (yA b)) (g:(loadVar ty a).run P w= .ok v w) (f:(loadVar e b).run P w= .ok v' w):
  (results fn tmps).run P w= .ok (qg #[v,v',tmps.getD u yN]) w:=by
 have c:tmps[p]?.getD yN=qc (yA a):=by simpa using i
 have d:tmps[q]?.getD yN=qc (yA b):=by simpa using j
 simp[results,h,c,d,asAddr,g,f,Result.andThen]
theorem qO6 {w:yC} {p q:Nat} {u v u' v':yD} {a b c d e f g a' b' c' d' e' f' g':yD} (r:w.heap[p]? =yA (qp #[u,v] TRp)) (s:w.heap[q]? =yA (qp #[a,b,c,d,e,f,g] TDk)) {W:yC} (t:(w.setCells p 0 [u',v']).setCells q 0 [a',b',c',d',e',f',g']=W):
  W.heap[p]? =yA (qp #[u',v'] TRp)/\W.heap[q]? =yA (qp #[a',b',c',d',e',f',g'] TDk)/\(∀D,D<=p->D<=q->yM D w W)/\(∀{lev n X:Nat} {z:List T} {y:DV} {B:List Rr},Dk lev z n X w y B->Dk lev z n X W y B):=by
 have hne:q≠p:=fun e=>by
  rw[e,r]at s;exact absurd (qQ6 (qPv s)).2.1 qW
 have i:∀k,k≠p->(w.setCells p 0 [u',v']).heap[k]? =w.heap[k]? :=fun k x=>xH _ w p 0 k x;have F:=xS [u',v'] w p 0 _ _ _ r;rw[show xO #[u,v] 0 [u',v']= #[u',v']by simp[xO]]at F;have l:=(i q hne).trans s;have j:∀k,k≠q->W.heap[k]? =(w.setCells p 0 [u',v']).heap[k]? :=fun k x=>by rw[<-t];exact xH _ _ q 0 k x
 have z2:=xS [a',b',c',d',e',f',g'] (w.setCells p 0 [u',v']) q 0 _ _ _ l;rw[show xO #[a,b,c,d,e,f,g] 0 [a',b',c',d',e',f',g']= #[a',b',c',d',e',f',g']by simp[xO],t]at z2;exact⟨(j p hne.symm).trans F,z2,fun D G H=>by rw[<-t];exact(xA _ p 0 (yR _ _) G).trans (xA _ q 0 (yR _ _) H),fun h=>(h.far r qW qW qW i).far l qW qW qW j⟩
structure RQ (lev:Nat) (ps:List T) (n X:Nat) (w0 w:yC) (E K:Nat) (d:DV) (rs:List Rr) (r:Nat) (q:Dd) (d':DV):Prop where
 k0:w.heap[K]? =yA (qp #[qY q.tx,qX qm q.c] TRp)
 k1:w.heap[K+1]? =yA (qp d'.cl TDk)
 sw:SW3 w E d (qY ⟨#[]⟩) (qX qm 0) ZD
 ek:E+3<=K
 bl:yM E w0 w
 dk:Dk lev ps n X w d' (rs.set r q.r)
 eh:d'.sh=q.sh
 ed:d'.dec=q.dec
 ea:d'.a=d.a
 em:d'.m=d.m
theorem qL4 (lev n X:Nat) (z:List T) (P:Ps lev z n) (hX:kN z.flatten=X) (A:Arc lev z (zCt lev z) n) (N:(zCt lev z).size<=100000000) (d:DV) (rs:List Rr) (r o m:Nat) (a b:Int) (hx:rs[r]? =yA free) (hv:Cov z n X o m a b) (ho:o<=100000000) (hm:m<1048576) (b0:d.a=zCt lev z) (w:yC) (hd:Dk lev z n X w d rs):
  yG yK 15 #[d.v,r,o,m] w fun e w'=>∃d',e=qx (qg #[.agg #[qY (xB ((z.flatten.drop o).take m)),qX qm (if X<o+m then 8 else 0)],d'.v,qX qm 0])/\Dk lev z n X w' d' rs/\RF z n d.sh d.dec a b d'.sh d'.dec/\d'.a=d.a/\d'.m=d.m/\yM w w w':=by
 obtain⟨cE,a5⟩:∃c:Int,(if X<o+m then 8 else 0)=c:=⟨_,rfl⟩;rw[a5];have av:=zH a5;clear a5;have a2:=At8.start P hX hv hm d.sh d.dec ⟨hd.rgt,hd.held⟩ hd.dec;obtain⟨q0,V⟩:=zB (qI8 X d.sh d.dec o m a b);obtain⟨E,hE⟩:=zB w.heap.size;obtain⟨W,hW⟩:=zB (((w.alloc (qp d.cl TDk)).alloc (qp #[qY ⟨#[]⟩,qX qm 0] TRp)).alloc (qp ZD TDk));have S:=SW3.start w d;rw[hW,hE]at S;have a3:yM E w W:=by rw[<-hW,<-hE];exact(((yR _ _).alloc (qPq _) _).alloc (by simp only[zA];omega) _).alloc (by simp only[zA];omega) _
 have ab:W.heap.size=E+3:=by rw[<-hW];simp only[zA];omega
 have HA:=qOd lev n X z P hX d rs r o m a b hx hv ho hm W (hd.below (by rw[hE];exact a3));have b3:qI8 X d.sh d.dec o m a b=q0:=V;have ak:q0.sh=d.sh/\q0.dec=d.dec:=by rw[<-V];unfold qI8;split<;>exact⟨rfl,rfl⟩
 rw[V]at a2 HA;have ao:=zH (fun(d':DV) (q:Dd) (w':yC) (x1:(rs.set r q.r)[r]? =yA q.r) (j:Nat) (O:Wk lev z n X q.r j) (ht:q.r.st=3->q.r.txt=gP z q.r.b) (e1:d'.sh=q.sh) (e2:d'.dec=q.dec) (e3:d'.a=d.a) (R:okR lev z n X (deed z X d'.sh d'.dec q.r).r) (g:Dk lev z n X w' d' (rs.set r q.r))=>
  qM5 lev n X z P hX A N d' (rs.set r q.r) r j q.r x1 O ht (e3.trans b0) R w' g)
 obtain⟨ar,HA,A0,S0,B0,Z0,HE,HW,ac⟩:=yj (fun(q:Dd) (k:Nat) (h:At8 lev z n X d.sh d.dec o m a b q k) (hq:q.dn=yI)=>h.step P hX hq) HA a2 S a3 ab hE hW ak;have a6:=zH hx;have L:=S.b0;unfold DV.cl at L;obtain⟨y0,y1,y2,y3,y4,y5,y6⟩:=qH7 L;rw[hE];clear P hX S a3 ab hE hW V b3 ak a2 hd L hx hv b0 N A;unfold DV.v at HA⊢;unfold DV.cl at HA HW⊢;go_enter func15,ntmps15;go_wp2_with fail;rw[HE.out,show((w.alloc (qp #[qY d.a,qZ d.ip d.n d.ic,qX qm d.sh.room,qX qm d.sh.clock,qZ d.sa (kN d.sh.held) d.sk,qZ d.rp d.m d.rc,qX qm (d.dec:Int)] TDk)).alloc (qp #[qY ⟨#[]⟩,qX qm 0] TRp)).alloc (qp ZD TDk)=W from HW.out];clear y0 y1 y2 y3 y4 y5 y6;(with_reducible refine HA.out.mono ?_);rintro e w1 ⟨d1,rfl,ae,e1,e2,e3,e4,Y⟩;obtain⟨K,hK⟩:=zB w1.heap.size;have B:yM K w1 ((w1.alloc (qp #[qY q0.tx,qX qm q0.c] TRp)).alloc (qp d1.cl TDk)):=by rw[<-hK];exact((yR _ _).alloc (qPq _) _).alloc (by rw[zA];omega) _
 have a0:E+3<=K:=by have:=Y.size;rw[Z0.out]at this;omega
 have aj:RQ lev z n X w ((w1.alloc (qp #[qY q0.tx,qX qm q0.c] TRp)).alloc (qp d1.cl TDk)) E K d rs r q0 d1:=
  ⟨by rw[<-hK];exact(Lib.alloc_old _ _ _ (by rw[zA];omega)).trans (zAh w1 _),by rw[<-hK,<-zA w1 (qp #[qY q0.tx,qX qm q0.c] TRp)];exact zAh _ _,(S0.out.below Y (by rw[Z0.out];exact qPq _)).below B a0,a0,(B0.out.trans (Y.mono (by rw[Z0.out];omega))).trans (B.mono za),ae.below (by rw[hK];exact B),e1.trans ac.out.1.symm,e2.trans ac.out.2.symm,e3,e4⟩
 obtain⟨R0,HK⟩:=yU aj hK;clear ae e1 e2 e3 e4 Y B aj a0 hK HA;go_wp2;rw[HK.out];go_loopg [11,14] (100000) (fun kx dn er wr=>∃(q:Dd) (d':DV),dn=qh q.dn/\er=qX qm 0/\yL (RQ lev z n X w wr E K d rs r q d')/\yL (At8 lev z n X d.sh d.dec o m a b q kx))
 case atStart=>exact⟨q0,d1,rfl,rfl,R0,A0⟩
 case round=>
  obtain⟨q,d',rfl,rfl,hR,hA⟩:=hrel;have I:=hR.out.k1;unfold DV.cl at I;cases hq:q.dn with
  |false=>
   obtain⟨k',ap,a8,R,⟨j,O⟩,t⟩:=ar.out q gk hA.out hq;have ai:(rs.set r q.r)[r]? =yA q.r:=by rw[qSu,qPr rfl,qPr (h_lt a6.out)]
   have hs:=ao.out d' q wr ai j O t hR.out.eh hR.out.ed hR.out.ea (by rw[hR.out.eh,hR.out.ed];exact R) hR.out.dk;rw[hR.out.eh,hR.out.ed]at hs;obtain⟨q2,a4⟩:=zB (deed z X q.sh q.dec q.r);rw[a4,List.set_set]at hs;rw[a4]at a8;obtain⟨HS,az⟩:=yU hs a8;obtain⟨y0,y1,y2,y3,y4,y5,y6⟩:=qH7 I;unfold DV.v DV.cl at HS;clear hs a8 R O t ai a4 I hA;go_wp2_with fail;clear y0 y1 y2 y3 y4 y5 y6;(with_reducible refine HS.out.mono ?_);rintro e w5 ⟨y,rfl,g,p1,p2,p3,p4,H⟩;have a1:=hkeep hR.out.k0 H;have f:=hkeep hR.out.k1 H;unfold DV.cl at f;obtain⟨w6,Z⟩:=zB ((w5.setCells K 0 [qY q2.tx,qX qm q2.c]).setCells (K+1) 0 [qY y.a,qZ y.ip y.n y.ic,qX qm y.sh.room,qX qm y.sh.clock,qZ y.sa (kN y.sh.held) y.sk,qZ y.rp y.m y.rc,qX qm (y.dec:Int)]);obtain⟨z1,z2,x,l⟩:=qO6 a1 f Z;have N:=zAd hR.out.k1;have G:=hR.out.ek;have R6:=yT (RQ lev z n X w w6 E K d rs r q2 y) ⟨z1,z2,(hR.out.sw.below H za).below (x K (qPq _) za) G,G,(hR.out.bl.trans (H.mono za)).trans (x E za za),l g,p1,p2,p3.trans hR.out.ea,p4.trans hR.out.em⟩;obtain⟨x0,x1,x2,x3⟩:=qIa a1;obtain⟨y0,y1,y2,y3,y4,y5,y6⟩:=qH7 f;have f0:=qH9 f 0;have f1:=qH9 f 1;have f2:=qH9 f 2;have f3:=qH9 f 3;have f4:=qH9 f 4;have f5:=qH9 f 5;have f6:=qH9 f 6;have ay:=zH Z;clear g p1 p2 p3 p4 H a1 f Z z1 z2 x l N G HS;go_wp2;clear x0 x1 x2 x3 y0 y1 y2 y3 y4 y5 y6 f0 f1 f2 f3 f4 f5 f6;rw[show((((((((w5.setCell ⟨K,0,yB⟩ (qY q2.tx)).setCell ⟨K,1,yB⟩ (qX qm q2.c)).setCell ⟨K+1,0,yB⟩ (qY y.a)).setCell ⟨K+1,1,yB⟩ (qZ y.ip y.n y.ic)).setCell ⟨K+1,2,yB⟩ (qX qm y.sh.room)).setCell ⟨K+1,3,yB⟩ (qX qm y.sh.clock)).setCell ⟨K+1,4,yB⟩ (qZ y.sa (kN y.sh.held) y.sk)).setCell ⟨K+1,5,yB⟩ (qZ y.rp y.m y.rc)).setCell ⟨K+1,6,yB⟩ (qX qm (y.dec:Int))=w6 from ay.out];go_roundg k'
   case measure=>exact ap
   case rel=>exact⟨q2,y,rfl,rfl,R6,az⟩
  |true=>
   have s:q.r=free/\q.tx=xB ((z.flatten.drop o).take m)/\q.c=(if X<o+m then 8 else 0)/\RF z n d.sh d.dec a b q.sh q.dec:=by
    rcases hA.out with⟨h,_⟩|⟨_,h⟩
    .rw[hq]at h;cases h
    .exact h
   have g:=hR.out.dk;rw[s.1]at g;have ag:rs.set r free=rs:=by
    apply qRt;intro i;rw[qSu];split
    .next e=>subst e;rw[qPr (h_lt a6.out),a6.out]
    .rfl
   rw[ag]at g;obtain⟨tx,t⟩:=zB q.tx;obtain⟨cc,a7⟩:=zB q.c;have k0:=hR.out.k0;rw[t,a7]at k0;have S1:=hR.out.sw.below (yR (E+3) wr).drew (qPq _);obtain⟨w7,w8,af,a9,ah,ad,x,an,l,F,b1⟩:=qJs (u':=qY tx) (v':=qX qm cc) (a':=qY d'.a) (b':=qZ d'.ip d'.n d'.ic) (c':=qX qm d'.sh.room) (d':=qX qm d'.sh.clock) (e':=qZ d'.sa (kN d'.sh.held) d'.sk) (f':=qZ d'.rp d'.m d'.rc) (g':=qX qm (d'.dec:Int)) S1.b1 S1.b2 (by simp[Value.oneCell']) (by simp[Value.oneCell']);have M:=yT (wr.drew.heap[K]? =yA (qp #[qY tx,qX qm cc] TRp)/\wr.drew.heap[K+1]? =yA (qp #[qY d'.a,qZ d'.ip d'.n d'.ic,qX qm d'.sh.room,qX qm d'.sh.clock,qZ d'.sa (kN d'.sh.held) d'.sk,qZ d'.rp d'.m d'.rc,qX qm (d'.dec:Int)] TDk)) (yS k0 I);have G:=hR.out.ek;obtain⟨ax,L0,L1⟩:=yV (yS ((F K za).trans M.out.1) ((F (K+1) za).trans M.out.2)) (fun(W9:yC) (h:W9.heap[K]? =yA (qp #[qY tx,qX qm cc] TRp)/\W9.heap[K+1]? =yA (qp #[qY d'.a,qZ d'.ip d'.n d'.ic,qX qm d'.sh.room,qX qm d'.sh.clock,qZ d'.sa (kN d'.sh.held) d'.sk,qZ d'.rp d'.m d'.rc,qX qm (d'.dec:Int)] TDk))=>qIv h.1) (fun(W9:yC) (h:W9.heap[K]? =yA (qp #[qY tx,qX qm cc] TRp)/\W9.heap[K+1]? =yA (qp #[qY d'.a,qZ d'.ip d'.n d'.ic,qX qm d'.sh.room,qX qm d'.sh.clock,qZ d'.sa (kN d'.sh.held) d'.sk,qZ d'.rp d'.m d'.rc,qX qm (d'.dec:Int)] TDk))=>ld7 h.2);have am:=yT (Dk lev z n X w8 d' rs/\RF z n d.sh d.dec a b d'.sh d'.dec/\d'.a=d.a/\d'.m=d.m/\yM E w w8) ⟨l (g.below (yR _ _).drew),by rw[hR.out.eh,hR.out.ed];exact s.2.2.2,hR.out.ea,hR.out.em,hR.out.bl.drew.trans (x E za za)⟩;obtain⟨aa,aq,au,Z1,Z2⟩:=yY (yS (t.symm.trans s.2.1) (a7.symm.trans (s.2.2.1.trans av.out))) af a9 (qIv ah) (ld7 ad);clear s g ag t a7 k0 S1 af a9 ah ad x an l F G I hA hR;go_wp2;refine zS [4] (fun W9=>W9.heap[K]? =yA (qp #[qY tx,qX qm cc] TRp)/\W9.heap[K+1]? =yA (qp #[qY d'.a,qZ d'.ip d'.n d'.ic,qX qm d'.sh.room,qX qm d'.sh.clock,qZ d'.sa (kN d'.sh.held) d'.sk,qZ d'.rp d'.m d'.rc,qX qm (d'.dec:Int)] TDk)) [0,0,0,1,11,31] 6<|zu 2 41 (qX qm 0)<|zy 1 40 (.agg #[qY d'.a,qZ d'.ip d'.n d'.ic,qX qm d'.sh.room,qX qm d'.sh.clock,qZ d'.sa (kN d'.sh.held) d'.sk,qZ d'.rp d'.m d'.rc,qX qm (d'.dec:Int)]) (fun w hS=>zl 39 13 (L1.out w hS)) M.out<|zp [0]<|zt 39 (.agg #[qY tx,qX qm cc]) ((fun w hS=>zl 44 12 (L0.out w hS)) _ (M.out))<|zn<|zw 3 yB (zr 44 8 39 (aq.out)) (qy (qy (ax.out)))<|zw 4 yB (zr 39 9 40 (au.out)) (qy (qz zf))<|zp [5]<|zk 10 (qX qm 0)<|zn<|zE<| ?_
   simp only[zP,zI,Act.put,qPx,qPw,qPy];go_wp2;refine qP5 (v:=qg #[.agg #[qY tx,qX qm cc],.agg #[qY d'.a,qZ d'.ip d'.n d'.ic,qX qm d'.sh.room,qX qm d'.sh.clock,qZ d'.sa (kN d'.sh.held) d'.sk,qZ d'.rp d'.m d'.rc,qX qm (d'.dec:Int)],qX qm 0]) ?_ rfl ?_
   .exact qLi (p:=8) (q:=9) (u:=10) rfl _ _ _ ⟨E+1,0,yB⟩ ⟨E+1+1,0,yB⟩ _ _ rfl rfl Z1.out Z2.out
   .exact⟨d',by rw[<-aa.out.1,<-aa.out.2],am.out⟩
end Sk
end Go.Proofs.YtppnakkaljbmbaaGreatDoor
