/- Steps of a proof; no condition beyond what each states. -/
import Derived.Test.YtppnakkaljbmbaaGreatDoorZX00
import Derived.Test.YtppnakkaljbmbaaGreatDoorZX31
set_option linter.unusedVariables false
set_option linter.unusedSimpArgs false
set_option maxRecDepth 100000
set_option maxHeartbeats 8000000
open List renaming length->kG
open Go.Proofs.YtppnakkaljbmbaaGreatDoor.Kit renaming below_setCells->yt,spl->xI
open Go.Proofs.YtppnakkaljbmbaaGreatDoor.Rle renaming bs->yw
open Go.Proofs.YtppnakkaljbmbaaGreatDoor.Cache renaming Sh->yx,SI->xU,Has->xY
open Go.RowKit
open Go.Proofs.Tryz
open Go.Value renaming int->qV,string->qW,slice->qX,pointer->qY,tuple->qZ,bool->qc
open Go.IntKind renaming i64->qj
open Go.Obj renaming cells->qm
open Go.Ending renaming returned->qp
open Option renaming some->qw,none->qx
open Go renaming World->qy,Value->qz,TypeId->yA,Addr->yB,Calls->yC,undef->yJ
open Bool renaming true->yD,false->yE
open Go.Proofs.Tryz renaming prog->yG
open Go.RowKit renaming Hid->yH,Below->yI
open Go.RowKit.Below renaming refl->yN
open And renaming intro->yO
namespace Go.Proofs.YtppnakkaljbmbaaGreatDoor
namespace Sk
theorem qMx (w:qy):yC yG 146 #[qV qj 1] w fun e w'=>e=qp (.func (.func 198) #[] #[])/\yI w.heap.size w w':=by
 go_enter func146,ntmps146;go_wp2;go_ret;exact⟨rfl,(yN _ _).alloc (qPq _) _⟩
theorem qMw (w:qy):yC yG 146 #[qV qj 2] w fun e w'=>e=qp (.func (.func 199) #[] #[])/\yI w.heap.size w w':=by
 go_enter func146,ntmps146;go_wp2;go_ret;exact⟨rfl,(yN _ _).alloc (qPq _) _⟩
theorem qMv (w:qy):yC yG 146 #[qV qj 3] w fun e w'=>e=qp (.func (.func 200) #[] #[])/\yI w.heap.size w w':=by
 go_enter func146,ntmps146;go_wp2;go_ret;exact⟨rfl,(yN _ _).alloc (qPq _) _⟩
end Sk
namespace Sk
open Hf Bt Zr Ch Sq Tn Sm Ix2 Sd
open Front (ival)
variable {u v:qz} {w:qy} {B:Nat}
theorem qJc {fn:Func} {t p q u:Tmp} {ty e:yA} (h:fn.results= #[.tmp t,.cell p ty,.cell q e,.tmp u]) (tmps:Array qz) (P:Program) (w:qy) (a b:yB) (v v':qz) (i:tmps.getD p yJ=qY (qw a)) (j:tmps.getD q yJ=qY (qw b)) (g:(loadVar ty a).run P w= .ok v w) (f:(loadVar e b).run P w= .ok v' w):
  (results fn tmps).run P w= .ok (qZ #[tmps.getD t yJ,v,v',tmps.getD u yJ]) w:=by
 have c:tmps[p]?.getD yJ=qY (qw a):=by simpa using i
 have d:tmps[q]?.getD yJ=qY (qw b):=by simpa using j
 simp[results,h,c,d,asAddr,g,f,Result.andThen]
theorem Cp.aw {b n X:Nat} {f:List T} {d d':DV} {i:List Rr} (h:Cp b f n X w B d d' i) (k:B<=w.heap.size):∃g,AW b f n (w.alloc (qm d'.cl TDk)) B w.heap.size g d' i:=by
 have e:yI w.heap.size w (w.alloc (qm d'.cl TDk)):=(yN _ _).alloc (qPq _) _;have a:∃g,d'.rp=qw ⟨g,0,qx⟩:=by
  obtain⟨_,j⟩:=h.own;rcases j with⟨_,o⟩|⟨g',l,m,hv,_⟩
  ·have:=h.dk.m1;omega
  ·injection hv with ha;exact⟨g',ha⟩
 obtain⟨g,a⟩:=a;exact⟨g,⟨zAh _ _,k,a,by have c:=h.own.below e (qPq _);rw[a]at c;exact c,(Dm.of h.dk).below e⟩⟩
theorem qNq (f n X:Nat) (b:List T) (P:Ps f b n) (t:kG b.flatten=X) (A:Arc f b (zCt f b) n) (z:(zCt f b).size<=100000000) (k:List Rr) (r j:Nat) (x:Rr) (s:k[r]? =qw x) (h:Wk f b n X x j) (H:x.st=3->x.txt=gP b x.b) (a:ByteArray) (G:a=zCt f b) (sh:yx) (y:xU (gP b) n sh):
  ∃F:FuncId,(∀(args:Array qz) (w:qy),(callFunc F args).run yG w= .ok (.enter F args) w)/\(∀w,yC yG 146 #[qV qj (x.st:Int)] w fun e w'=>e=qp (.func (.func F) #[] #[])/\yI w.heap.size w w')/\
   (∀(B D g:Nat) (d:DV) (w:qy),d.sh=sh->d.a=a->r<d.m->B<=w.heap.size->AW f b n w B D g d k->yC yG F #[.agg #[qY (qw ⟨D,0,qx⟩),qV qj (r:Int)]] w (Post f b n B D g d k r (deed b X d.sh d.dec x) w)):=by
 have c:x.st=1\/x.st=2\/x.st=3:=by have:=h.s1;have:=h.s3;omega
 rcases c with i|i|i
 ·refine⟨198,enters_of func198 zf rfl,fun w=>by rw[i];exact qMx w,fun B D g d w p q m l o=>qNf f n X b B D g d k r j x s m P t h i (by rw[p];exact y) w l o⟩
 ·refine⟨199,enters_of func199 zf rfl,fun w=>by rw[i];exact qMw w,fun B D g d w p q m l o=>zZq f n X b B D g d k r j x s m P A z (q.trans G) h i w l o⟩
 ·refine⟨200,enters_of func200 zf rfl,fun w=>by rw[i];exact qMv w,fun B D g d w p q m l o=>qKc f n X b B D g d k r j x s m P t h i (H i) (by rw[p];exact y) w l o⟩
structure SW3 (w:qy) (E:Nat) (d:DV) (u v:qz) (z:Array qz):Prop where
 b0:w.heap[E]? =qw (qm d.cl TDk)
 b1:w.heap[E+1]? =qw (qm #[u,v] TRp)
 b2:w.heap[E+1+1]? =qw (qm z TDk)
theorem SW3.below {w':qy} {E:Nat} {d:DV} {z:Array qz} (h:SW3 w E d u v z) (a:yI B w w') (b:E+3<=B):SW3 w' E d u v z:=⟨(a.block E za).trans h.b0,(a.block (E+1) za).trans h.b1,(a.block (E+1+1) za).trans h.b2⟩
theorem SW3.start (w:qy) (d:DV):SW3 (((w.alloc (qm d.cl TDk)).alloc (qm #[qW ⟨#[]⟩,qV qj 0] TRp)).alloc (qm ZD TDk)) w.heap.size d (qW ⟨#[]⟩) (qV qj 0) ZD:=
 ⟨(Lib.alloc_old _ _ _ (by simp only[zA];omega)).trans ((Lib.alloc_old _ _ _ (by simp only[zA];omega)).trans (zAh w _)),(Lib.alloc_old _ _ _ (by simp only[zA];omega)).trans (by rw[<-zA w (qm d.cl TDk)];exact zAh _ _),by rw[show w.heap.size+1+1=((w.alloc (qm d.cl TDk)).alloc (qm #[qW ⟨#[]⟩,qV qj 0] TRp)).heap.size from by simp only[zA]];exact zAh _ _⟩
theorem qJs {p q:Nat} {u' v':qz} {a b c d e f g a' b' c' d' e' f' g':qz} (s:w.heap[p]? =qw (qm #[u,v] TRp)) (t:w.heap[q]? =qw (qm #[a,b,c,d,e,f,g] TDk)) (K:∀z∈[u',v'],z.oneCell'=yD) (L:∀z∈[a',b',c',d',e',f',g'],z.oneCell'=yD):
  ∃r w2,(storeVar TRp ⟨p,0,qx⟩ (.agg #[u',v'])).run yG w= .ok () r/\(storeVar TDk ⟨q,0,qx⟩ (.agg #[a',b',c',d',e',f',g'])).run yG r= .ok () w2/\w2.heap[p]? =qw (qm #[u',v'] TRp)/\w2.heap[q]? =qw (qm #[a',b',c',d',e',f',g'] TDk)/\(∀D,D<=p->D<=q->yI D w w2)/\(∀k,k≠p->k≠q->w2.heap[k]? =w.heap[k]?)/\
   (∀{F n X:Nat} {H:List T} {G:DV} {I:List Rr},Dk F H n X w G I->Dk F H n X w2 G I)/\(∀k,k≠p->r.heap[k]? =w.heap[k]?)/\(∀D,D<=p->yI D w r):=by
 obtain⟨r,s1,M,m,N,i⟩:=qKy (u':=u') (v':=v') s K;have hne:q≠p:=fun e=>by
  rw[e,s]at t;exact absurd (qRf (qPv t)).2.1 z8
 have l:=(i q hne).trans t;obtain⟨w2,_,s2,z2,o,O,j⟩:=st7 (a':=a') (b':=b') (c':=c') (d':=d') (e':=e') (f':=f') (g':=g') l L;exact⟨r,w2,s1,s2,(j p hne.symm).trans M,z2,fun D x y=>(m D x).trans (o D y),fun k x y=>(j k y).trans (i k x),fun h=>(h.far s z8 z8 z8 i).far l z8 z8 z8 j,i,m⟩
theorem qM5 (m n X:Nat) (b:List T) (P:Ps m b n) (hX:kG b.flatten=X) (A:Arc m b (zCt m b) n) (b2:(zCt m b).size<=100000000) (d:DV) (rs:List Rr) (r j:Nat) (x:Rr) (hx:rs[r]? =qw x) (h:Wk m b n X x j) (ht:x.st=3->x.txt=gP b x.b) (b1:d.a=zCt m b) (b0:okR m b n X (deed b X d.sh d.dec x).r) (w:qy) (hd:Dk m b n X w d rs):
  yC yG 65 #[d.v,qV qj (r:Int)] w fun e w'=>∃d',e=qp (qZ #[qc (deed b X d.sh d.dec x).dn,.agg #[qW (deed b X d.sh d.dec x).tx,qV qj (deed b X d.sh d.dec x).c],d'.v,qV qj 0])/\Dk m b n X w' d' (rs.set r (deed b X d.sh d.dec x).r)/\d'.sh=(deed b X d.sh d.dec x).sh/\d'.dec=(deed b X d.sh d.dec x).dec/\d'.a=d.a/\d'.m=d.m/\yI w.heap.size w w':=by
 obtain⟨F,hF,an,a8⟩:=qNq m n X b P hX A b2 rs r j x hx h ht d.a b1 d.sh ⟨hd.rgt,hd.held⟩;have hr:r<d.m:=by rw[<-hd.rm];exact h_lt hx
 obtain⟨c,a3⟩:=zB (deed b X d.sh d.dec x);rw[a3]at b0⊢;obtain⟨E,hE⟩:=zB w.heap.size;obtain⟨W,hW⟩:=zB (((w.alloc (qm d.cl TDk)).alloc (qm #[qW ⟨#[]⟩,qV qj 0] TRp)).alloc (qm ZD TDk));have S:=SW3.start w d;rw[hW,hE]at S;have a7:yI E w W:=by rw[<-hW,<-hE];exact(((yN _ _).alloc (qPq _) _).alloc (by simp only[zA];omega) _).alloc (by simp only[zA];omega) _
 have aj:W.heap.size=E+3:=by rw[<-hW];simp only[zA];omega
 obtain⟨HC,HO,S0,B0,Z0,HE,HW,HQ,b5⟩:=yY (zCk m n X b P hX d rs r hr W (hd.below (by rw[hE];exact a7))) (fun w' (ba:yI E w w')=>qKp m n X b d rs w' (hd.below (by rw[hE];exact ba)) P.many) S a7 aj hE hW a3 a8;obtain⟨ag,aq,HD,b3⟩:=yS an b0 hd hx;have f:=S.b0;unfold DV.cl at f;obtain⟨y0,y1,y2,y3,y4,y5,y6⟩:=qH7 f;rw[hE];clear P hX A b2 b1 ht h hx S a7 aj hE hW a3 a8 an b0 hd f;unfold DV.v at HC⊢;unfold DV.cl at HC HW⊢;go_enter func65,ntmps65;go_wp2_with fail;rw[HE.out,show((w.alloc (qm #[qW d.a,qX d.ip d.n d.ic,qV qj d.sh.room,qV qj d.sh.clock,qX d.sa (kG d.sh.held) d.sk,qX d.rp d.m d.rc,qV qj (d.dec:Int)] TDk)).alloc (qm #[qW ⟨#[]⟩,qV qj 0] TRp)).alloc (qm ZD TDk)=W from HW.out];(with_reducible refine HC.out.mono ?_);rintro e w1 ⟨rfl,a0⟩;have S1:=zH (S0.out.below a0 (by rw[Z0.out];exact qPq _));have B1:=yP (yI E w w1/\E+3<=w1.heap.size) ⟨B0.out.trans (a0.mono (by rw[Z0.out];omega)),by have:=a0.size;rw[Z0.out]at this;exact this⟩;have a4:=zH (HO.out w1 B1.out.1);have f:=S1.out.b0;unfold DV.cl at f;clear a0 HC y0 y1 y2 y3 y4 y5 y6;obtain⟨y0,y1,y2,y3,y4,y5,y6⟩:=qH7 f;unfold DV.v DV.cl at a4;clear f;go_wp2_with fail;(with_reducible refine a4.out.mono ?_);rintro e w2 ⟨d',rfl,k,I⟩;obtain⟨g,i⟩:=k.aw I.size;have a1:d'.cl= #[qW d'.a,qX d'.ip d'.n d'.ic,qV qj d'.sh.room,qV qj d'.sh.clock,qX d'.sa (kG d'.sh.held) d'.sk,qX (qw ⟨g,0,qx⟩) d'.m d'.rc,qV qj (d'.dec:Int)]:=by unfold DV.cl;rw[i.rp]
 obtain⟨w3,s⟩:=zB (w2.alloc (qm d'.cl TDk));obtain⟨D,hD⟩:=zB w2.heap.size;obtain⟨B,hB⟩:=zB w1.heap.size;rw[s,hD,hB]at i;have ao:yI B w1 w3/\B<=w3.heap.size:=⟨by rw[<-s,<-hB];exact I.alloc I.size _,by rw[<-s,zA,<-hB];have:=I.size;omega⟩;obtain⟨ac,N,o⟩:=yR i ao (yO k.ea (yO k.es (yO k.em k.ed)));have l:=yP (E+3<=B) (by rw[<-hB];exact B1.out.2);have hm:r<d'.m:=by rw[k.em];exact hr
 have ay:=i.dm.rc;have b8:=i.dm.m8;have f:=i.blk;rw[a1]at f;have c5:=(qH7 f).2.2.2.2.2.1;have x0:=(i.at r x b3.out).1;obtain⟨ai,a2,b6,bc⟩:=yS (ag.out w3) s hD a1;rw[a1]at a2;have aa:=i.rp;clear y0 y1 y2 y3 y4 y5 y6 a4 k I i s hD ao f a1;rw[aa];rw[<-a2.out]at x0;clear aa c5;go_wp2_with fail;rw[b6.out,show w2.alloc (qm #[qW d'.a,qX d'.ip d'.n d'.ic,qV qj d'.sh.room,qV qj d'.sh.clock,qX d'.sa (kG d'.sh.held) d'.sk,qX (qw ⟨g,0,qx⟩) d'.m d'.rc,qV qj (d'.dec:Int)] TDk)=w3 from a2.out];clear x0;(with_reducible refine ai.out.mono ?_);rintro e w4 ⟨rfl,Y⟩;have ad:=zH (ac.out.below Y);have H:=yP (yI B w1 w4/\B<=w4.heap.size) ⟨N.out.1.trans (Y.mono N.out.2),qP4 N.out.2 Y.size⟩;have a5:=zH (b5.out B D g d' w4 o.out.2.1 o.out.1 hm H.out.2 ad.out);rw[show deed b X d'.sh d'.dec x=c by rw[o.out.2.1,o.out.2.2.2];exact HQ.out]at a5;clear Y ac N ai HO ag hm ay b8;go_wp2_with fail;(with_reducible refine a5.out.mono ?_);rintro e z ⟨a,rfl,R,p1,p2,p3,p4,V,ar⟩;have a6:∀y∈rs.set r c.r,okR m b n X y:=fun y hy=>by
  rcases List.mem_or_eq_of_mem_set hy with h1|h1
  ·exact HD.out.okr y h1
  ·rw[h1];exact aq.out
 have ak:=R.dk a6;have S5:=(S1.out.below H.out.1 l.out).below V l.out;have B5:yI E w z/\E+3<=z.heap.size:=⟨(B1.out.1.trans (H.out.1.mono (by have:=l.out;omega))).trans (V.mono (by have:=l.out;omega)),by have:=V.size;have:=H.out.2;have:=l.out;omega⟩;obtain⟨Z,hZ⟩:=zB z.heap.size;obtain⟨w6,K⟩:=zB ((z.alloc (qm #[qW c.tx,qV qj c.c] TRp)));have G:yI z.heap.size z w6.drew:=by rw[<-K];exact((yN _ _).alloc (qPq _) _).drew
 have LZ:=yP ((loadVar TRp ⟨Z,0,qx⟩).run yG w6.drew= .ok (.agg #[qW c.tx,qV qj c.c]) w6.drew) (qIv (by rw[<-K,<-hZ];exact zAh z _));have M:=hkeep R.blk G;unfold DV.cl at M;have LD:=zH (fun(W9:qy) (h:W9.heap[D]? =qw (qm #[qW a.a,qX a.ip a.n a.ic,qV qj a.sh.room,qV qj a.sh.clock,qX a.sa (kG a.sh.held) a.sk,qX a.rp a.m a.rc,qV qj (a.dec:Int)] TDk))=>ld7 h);have S6:=S5.below G za;obtain⟨w7,w8,af,ah,am,ae,ab,ap,a9,L,bb⟩:=qJs (u':=qW c.tx) (v':=qV qj c.c) (a':=qW a.a) (b':=qX a.ip a.n a.ic) (c':=qV qj a.sh.room) (d':=qV qj a.sh.clock) (e':=qX a.sa (kG a.sh.held) a.sk) (f':=qX a.rp a.m a.rc) (g':=qV qj (a.dec:Int)) S6.b1 S6.b2 (by simp[Value.oneCell']) (by simp[Value.oneCell']);have b9:=zH (a9 (ak.below G));have av:=yP (yI E w w8) ((B5.1.trans (G.mono za)).trans (ab E za za));have O:=yP (a.sh=c.sh/\a.dec=c.dec/\a.a=d.a/\a.m=d.m) ⟨p1,p2,p3.trans o.out.1,p4.trans o.out.2.2.1⟩;obtain⟨az,ax,au,b4,R1,R2,HZ,b7⟩:=yX M ((L D (by have:=R.lo;have:=l.out;omega)).trans M) af ah (qIv am) (ld7 ae) hZ K;clear R p1 p2 p3 p4 V ar a6 ak S5 B5 hZ K G S6 af ah am ae ab ap a9 a5 ad H L M;go_wp2;rw[HZ.out,show z.alloc (qm #[qW c.tx,qV qj c.c] TRp)=w6 from b7.out];refine zS [5] (fun W9=>W9.heap[D]? =qw (qm #[qW a.a,qX a.ip a.n a.ic,qV qj a.sh.room,qV qj a.sh.clock,qX a.sa (kG a.sh.held) a.sk,qX a.rp a.m a.rc,qV qj (a.dec:Int)] TDk)) [0,0,0,1,11,31,63] 7<|zy 2 37 (.agg #[qW a.a,qX a.ip a.n a.ic,qV qj a.sh.room,qV qj a.sh.clock,qX a.sa (kG a.sh.held) a.sk,qX a.rp a.m a.rc,qV qj (a.dec:Int)]) (fun w hS=>zl 39 9 (LD.out w hS)) az.out<|zp [0,1,3]<|zk 35 (qc c.dn)<|zt 36 (.agg #[qW c.tx,qV qj c.c]) (zl 44 11 (LZ.out))<|zk 4 (qc c.dn)<|zn<|zw 4 qx (zr 44 5 36 (au.out)) (.inr (.inr (ax.out)))<|zw 5 qx (zr 39 6 37 (b4.out)) (.inr (.inl zf))<|zp [6]<|zk 7 (qV qj 0)<|zn<|zE<| ?_
 simp only[zP,zI,Act.put,qPz,qPy,qP0];go_wp2;refine qP5 (v:=qZ #[qc c.dn,.agg #[qW c.tx,qV qj c.c],.agg #[qW a.a,qX a.ip a.n a.ic,qV qj a.sh.room,qV qj a.sh.clock,qX a.sa (kG a.sh.held) a.sk,qX a.rp a.m a.rc,qV qj (a.dec:Int)],qV qj 0]) ?_ rfl ?_
 ·exact qJc (t:=4) (p:=5) (q:=6) (u:=7) rfl _ _ _ ⟨E+1,0,qx⟩ ⟨E+1+1,0,qx⟩ _ _ rfl rfl R1.out R2.out
 ·exact⟨a,rfl,b9.out,O.out.1,O.out.2.1,O.out.2.2.1,O.out.2.2.2,av.out⟩
end Sk
namespace Sk
open Hf Bt Zr Wg Tn Sm Ix2
open Front (ival)
@[irreducible] def qI8 (X:Nat) (sh:yx) (dec o m:Nat) (a b:Int):Dd:=
 if a<0 then⟨sh,dec,free,yD,⟨#[]⟩,if X<o+m then 8 else 0⟩else⟨sh,dec,⟨1,o,m,a.toNat,b.toNat,⟨#[]⟩,⟨#[]⟩⟩,yE,⟨#[]⟩,0⟩
theorem qOs {d n X:Nat} {c:List T} (P:Ps d c n) (h:kG c.flatten=X) {o m:Nat} {a b:Int} (hv:Cov c n X o m a b) (p:m<1048576) (sh:yx) (dec:Nat) (q:xU (gP c) n sh) (f:dec<=1099511627776):okR d c n X (qI8 X sh dec o m a b).r:=by
 unfold qI8;rcases hv with⟨_,e,_⟩|⟨e,g,j,l,rfl,rfl,i,k⟩
 ·rw[qPr za];exact .inl rfl
 ·rw[qPt za];refine .inr ⟨j,?_⟩;have:=(J.start (sh:=sh) (dec:=dec) q f e p g i k h P).wk;simpa using this
theorem qOd (b0 n X:Nat) (z:List T) (P:Ps b0 z n) (hX:kG z.flatten=X) (d:DV) (rs:List Rr) (r o m:Nat) (a b:Int) (hx:rs[r]? =qw free) (hv:Cov z n X o m a b) (ho:o<=100000000) (hm:m<1048576) (w:qy) (hd:Dk b0 z n X w d rs):
  yC yG 64 #[d.v,qV qj (r:Int),qV qj (o:Int),qV qj (m:Int)] w fun e w'=>∃d',e=qp (qZ #[qc (qI8 X d.sh d.dec o m a b).dn,.agg #[qW (qI8 X d.sh d.dec o m a b).tx,qV qj (qI8 X d.sh d.dec o m a b).c],d'.v,qV qj 0])/\Dk b0 z n X w' d' (rs.set r (qI8 X d.sh d.dec o m a b).r)/\d'.sh=d.sh/\d'.dec=d.dec/\d'.a=d.a/\d'.m=d.m/\yI w.heap.size w w':=by
 have ae:=qOs P hX hv hm d.sh d.dec ⟨hd.rgt,hd.held⟩ hd.dec;have hr:r<d.m:=by rw[<-hd.rm];exact h_lt hx
 have c8:=hd.rc;have c7:=hd.m8;obtain⟨g0,f0,L,b5⟩:=hd.rdr r free hx;have an:w.cell? ⟨g0,f0+r*7,qx⟩=qw (qV qj 0):=b5 0 z8;obtain⟨qd,ap⟩:=zB (qI8 X d.sh d.dec o m a b);rw[ap]at ae⊢;obtain⟨E,hE⟩:=zB w.heap.size;obtain⟨W,hW⟩:=zB (((w.alloc (qm d.cl TDk)).alloc (qm #[qW ⟨#[]⟩,qV qj 0] TRp)).alloc (qm ZD TDk));have a5:=SW3.start w d;rw[hW,hE]at a5;have ak:yI E w W:=by rw[<-hW,<-hE];exact(((yN _ _).alloc (qPq _) _).alloc (by simp only[zA];omega) _).alloc (by simp only[zA];omega) _
 have b4:W.heap.size=E+3:=by rw[<-hW];simp only[zA];omega
 obtain⟨HC,HO,HV⟩:=yR (zCk b0 n X z P hX d rs r hr W (hd.below (by rw[hE];exact ak))) (fun w' (b1:yI E w w')=>qKp b0 n X z d rs w' (hd.below (by rw[hE];exact b1)) P.many) (fun w' (b1:yI E w w')=>qKw b0 n z P d.ip d.ic o m a b w' (hd.idx.below (by rw[hE];exact b1) rfl) hd.ic hX hv ho za);rw[show n=d.n from hd.en.symm]at HV;obtain⟨Y,b7,bi,S0,B0,Z0,HE,HW,HQ⟩:=yY (fun w' (b1:yI E w w')=>qLe b0 n X z P hX d hd.en hd.ic o m ho za w' (hd.idx.below (by rw[hE];exact b1) rfl)) (fun w'=>qKm o m ho hm w') (fun(w':qy) (b1:yI E w w')=>(b1.cell (p:=⟨g0,f0+r*7,qx⟩) (by rw[<-hE];exact qQk an)).trans an) a5 ak b4 hE hW ap;obtain⟨bq,HD,bh,ar⟩:=yS ae hd hv hx;have f:=a5.b0;unfold DV.cl at f;rw[L]at f;obtain⟨y0,y1,y2,y3,y4,y5,y6⟩:=qH7 f;rw[hE];clear P hX a5 ak b4 hE hW ap ae hd f hx hv b5 an;unfold DV.v at HC Y⊢;unfold DV.cl at HC Y HW⊢;rw[L]at HC HW Y⊢;go_enter func64,ntmps64;go_wp2_with fail;rw[HE.out,show((w.alloc (qm #[qW d.a,qX d.ip d.n d.ic,qV qj d.sh.room,qV qj d.sh.clock,qX d.sa (kG d.sh.held) d.sk,qX (qw ⟨g0,f0,qx⟩) d.m d.rc,qV qj (d.dec:Int)] TDk)).alloc (qm #[qW ⟨#[]⟩,qV qj 0] TRp)).alloc (qm ZD TDk)=W from HW.out];(with_reducible refine HC.out.mono ?_);rintro e w1 ⟨rfl,ac⟩;have S1:=zH (S0.out.below ac (by rw[Z0.out];exact qPq _));have B1:=yP (yI E w w1/\E+3<=w1.heap.size) ⟨B0.out.trans (ac.mono (by rw[Z0.out];omega)),by have:=ac.size;rw[Z0.out]at this;exact this⟩;have a4:=zH (HO.out w1 B1.out.1);have f:=S1.out.b0;have x0:=bi.out w1 B1.out.1;unfold DV.cl at f;rw[L]at f;clear ac HC y0 y1 y2 y3 y4 y5 y6;obtain⟨y0,y1,y2,y3,y4,y5,y6⟩:=qH7 f;unfold DV.v DV.cl at a4;rw[L]at a4;clear f;go_wp2_with fail;(with_reducible refine(b7.out _).mono ?_);rintro e w2 ⟨rfl,rfl⟩;clear x0 b7;go_wp2_with fail;(with_reducible refine a4.out.mono ?_);rintro e w3 ⟨d',rfl,F,V⟩;obtain⟨g,Z⟩:=F.aw V.size;have ax:d'.cl= #[qW d'.a,qX d'.ip d'.n d'.ic,qV qj d'.sh.room,qV qj d'.sh.clock,qX d'.sa (kG d'.sh.held) d'.sk,qX (qw ⟨g,0,qx⟩) d'.m d'.rc,qV qj (d'.dec:Int)]:=by unfold DV.cl;rw[Z.rp]
 obtain⟨w4,S⟩:=zB (w3.alloc (qm d'.cl TDk));obtain⟨D,hD⟩:=zB w3.heap.size;obtain⟨B,hB⟩:=zB w2.heap.size;rw[S,hD,hB]at Z;have av:yI B w2 w4/\B<=w4.heap.size:=⟨by rw[<-S,<-hB];exact V.alloc V.size _,by rw[<-S,zA,<-hB];have:=V.size;omega⟩;obtain⟨bg,N,G⟩:=yR Z av (yO F.ea (yO F.es (yO F.em F.ed)));have s:=yP (E+3<=B) (by rw[<-hB];exact B1.out.2);have bk:r<d'.m:=by rw[F.em];exact hr
 have a1:=Z.rp;obtain⟨b8,b3,af,br,ab⟩:=yT (HV.out w4 (B1.out.1.trans (av.1.mono (by have:=s.out;omega)))) (F.dk.okr) S hD ax;rw[ax]at af;clear F V Z S hD av ax a4 y0 y1 y2 y3 y4 y5 y6 HO HV;have S3:=yP (SW3 (w3.alloc (qm d'.cl TDk)) E d (qW ⟨#[]⟩) (qV qj 0) ZD) (by rw[show w3.alloc (qm d'.cl TDk)=w4 by rw[ab.out];exact af.out];exact S1.out.below N.out.1 s.out);rw[ab.out]at S3;have f:=S3.out.b0;unfold DV.cl at f;rw[L]at f;obtain⟨y0,y1,y2,y3,y4,y5,y6⟩:=qH7 f;clear f;rw[a1];go_wp2_with fail;rw[br.out,show w3.alloc (qm #[qW d'.a,qX d'.ip d'.n d'.ic,qV qj d'.sh.room,qV qj d'.sh.clock,qX d'.sa (kG d'.sh.held) d'.sk,qX (qw ⟨g,0,qx⟩) d'.m d'.rc,qV qj (d'.dec:Int)] TDk)=w4 from af.out];(with_reducible refine b8.out.mono ?_);rintro e w5 ⟨rfl,a0⟩;have K:=zH (bg.out.below a0);have b9:SW3 w4 E d (qW ⟨#[]⟩) (qV qj 0) ZD:=S1.out.below N.out.1 s.out;have S5:=zH (b9.below (a0.mono N.out.2) s.out);have B5:=yP (yI E w w5/\B<=w5.heap.size) ⟨B1.out.1.trans ((N.out.1.trans (a0.mono N.out.2)).mono (by have:=s.out;omega)),qP4 N.out.2 a0.size⟩;have ag:=K.out.blk;rw[ab.out]at ag;obtain⟨aj,LD⟩:=yQ ag (fun(c:qy) (h:c.heap[D]? =qw (qm #[qW d'.a,qX d'.ip d'.n d'.ic,qV qj d'.sh.room,qV qj d'.sh.clock,qX d'.sa (kG d'.sh.held) d'.sk,qX (qw ⟨g,0,qx⟩) d'.m d'.rc,qV qj (d'.dec:Int)] TDk))=>ld7 h);clear a0 b9 S3 b8 y0 y1 y2 y3 y4 y5 y6 ag;have M:=HQ.out;unfold qI8 at M;rcases bh.out with⟨_,rfl,rfl⟩|⟨h1,h2,j,l,rfl,rfl,hj,hl⟩
 ·rw[qPr za]at M;obtain⟨cc,bb⟩:∃cc:Int,(if X<o+m then 8 else 0)=cc:=⟨_,rfl⟩;rw[bb]at M Y;subst M;have c6:((-1:Int)<0)=True:=by simp
  have ba:rs.set r free=rs:=by
   apply qRt;intro i;rw[qSv];split
   ·next e=>subst e;rw[qPr (h_lt ar.out),ar.out]
   ·rfl
  have bu:=zH ba;clear ba bb;go_wp2;have a9:=S5.out.b0;unfold DV.cl at a9;rw[L]at a9;have am:=yP (w5.drew.heap[E]? =_) a9;have ao:=yP (w5.drew.heap[D]? =_) aj.out;obtain⟨LE,bj⟩:=yQ (fun(c:qy) (h:c.heap[E]? =qw (qm #[qW d.a,qX d.ip d.n d.ic,qV qj d.sh.room,qV qj d.sh.clock,qX d.sa (kG d.sh.held) d.sk,qX (qw ⟨g0,f0,qx⟩) d.m d.rc,qV qj (d.dec:Int)] TDk)/\c.heap[D]? =qw (qm #[qW d'.a,qX d'.ip d'.n d'.ic,qV qj d'.sh.room,qV qj d'.sh.clock,qX d'.sa (kG d'.sh.held) d'.sk,qX (qw ⟨g,0,qx⟩) d'.m d'.rc,qV qj (d'.dec:Int)] TDk))=>ld7 h.1) (fun(c:qy) (h:c.heap[E]? =qw (qm #[qW d.a,qX d.ip d.n d.ic,qV qj d.sh.room,qV qj d.sh.clock,qX d.sa (kG d.sh.held) d.sk,qX (qw ⟨g0,f0,qx⟩) d.m d.rc,qV qj (d.dec:Int)] TDk)/\c.heap[D]? =qw (qm #[qW d'.a,qX d'.ip d'.n d'.ic,qV qj d'.sh.room,qV qj d'.sh.clock,qX d'.sa (kG d'.sh.held) d'.sk,qX (qw ⟨g,0,qx⟩) d'.m d'.rc,qV qj (d'.dec:Int)] TDk))=>ld7 h.2);clear a9;refine zS [8] (fun c=>c.heap[E]? =qw (qm #[qW d.a,qX d.ip d.n d.ic,qV qj d.sh.room,qV qj d.sh.clock,qX d.sa (kG d.sh.held) d.sk,qX (qw ⟨g0,f0,qx⟩) d.m d.rc,qV qj (d.dec:Int)] TDk)/\c.heap[D]? =qw (qm #[qW d'.a,qX d'.ip d'.n d'.ic,qV qj d'.sh.room,qV qj d'.sh.clock,qX d'.sa (kG d'.sh.held) d'.sk,qX (qw ⟨g,0,qx⟩) d'.m d'.rc,qV qj (d'.dec:Int)] TDk)) [0,0,0,7,8,0,8,95,255,511] 10<|zy 5 59 (.agg #[qW d'.a,qX d'.ip d'.n d'.ic,qV qj d'.sh.room,qV qj d'.sh.clock,qX d'.sa (kG d'.sh.held) d'.sk,qX (qw ⟨g,0,qx⟩) d'.m d'.rc,qV qj (d'.dec:Int)]) (fun w hS=>zl 39 13 (bj.out w hS)) (yO am.out ao.out)<|zp [0,1,2]<|zt 54 (.agg #[qW d.a,qX d.ip d.n d.ic,qV qj d.sh.room,qV qj d.sh.clock,qX d.sa (kG d.sh.held) d.sk,qX (qw ⟨g0,f0,qx⟩) d.m d.rc,qV qj (d.dec:Int)]) ((fun w hS=>zl 39 4 (LE.out w hS)) _ (yO am.out ao.out))<|zk 55 (zI o)<|zk 56 (zI m)<|zn<|zx 3 57 145 #[.agg #[qW d.a,qX d.ip d.n d.ic,qV qj d.sh.room,qV qj d.sh.clock,qX d.sa (kG d.sh.held) d.sk,qX (qw ⟨g0,f0,qx⟩) d.m d.rc,qV qj (d.dec:Int)],qV qj (o:Int),qV qj (m:Int)] (Y.out w5.drew B5.out.1.drew)<| ?_
  rintro e w6 ⟨rfl,I⟩;have R:yI w5.heap.size w5 w6:=(yN _ _).drew.trans I;have S6:=S5.out.below R (by have:=s.out;have:=B5.out.2;omega);obtain⟨w7,w8,a8,a3,aa,a7,a6,au,O,x,bc⟩:=qJs (u':=qW ⟨#[]⟩) (v':=qV qj cc) (a':=qW d'.a) (b':=qX d'.ip d'.n d'.ic) (c':=qV qj d'.sh.room) (d':=qV qj d'.sh.clock) (e':=qX d'.sa (kG d'.sh.held) d'.sk) (f':=qX (qw ⟨g,0,qx⟩) d'.m d'.rc) (g':=qV qj (d'.dec:Int)) S6.b1 S6.b2 (by simp[Value.oneCell']) (by simp[Value.oneCell']);have b6:=hkeep aj.out R;have ay:=hkeep am.out I;have az:=K.out.lo;have bz:=s.out;refine⟨_,rfl,.inr (.inr (yO ay b6)),?_⟩;refine zp [4,6]<|zk 58 (.agg #[qW ⟨#[]⟩,qV qj cc])<|zk 8 (qc yD)<|zn<|zw 7 qx (zr 44 9 58 (a8)) (.inr (.inr (yO ((x E za).trans ay) ((x D za).trans b6))))<|zw 8 qx (zr 39 10 59 (a3)) (.inr (.inl zf))<|zp [9]<|zk 11 (qV qj 0)<|zn<|zE<| ?_
  simp only[zP,zI,Act.put,qPz,qPy,qP0];go_wp2;refine qP5 (v:=qZ #[qc yD,.agg #[qW ⟨#[]⟩,qV qj cc],.agg #[qW d'.a,qX d'.ip d'.n d'.ic,qV qj d'.sh.room,qV qj d'.sh.clock,qX d'.sa (kG d'.sh.held) d'.sk,qX (qw ⟨g,0,qx⟩) d'.m d'.rc,qV qj (d'.dec:Int)],qV qj 0]) ?_ rfl ?_
  ·exact qJc (t:=8) (p:=9) (q:=10) (u:=11) rfl _ _ _ ⟨E+1,0,qx⟩ ⟨E+1+1,0,qx⟩ _ _ rfl rfl (qIv aa) (ld7 a7)
  ·refine⟨d',?_,?_,G.out.2.1,G.out.2.2.2,G.out.1,G.out.2.2.1,?_⟩
   ·rw[a1]
   ·rw[bu.out];exact O ((K.out.dk b3.out).below R)
   ·exact(B5.out.1.trans (R.mono (by have:=B5.out.2;omega))).trans (a6 E za za)
 ·rw[qPt za,Int.toNat_natCast,Int.toNat_natCast]at M;subst M;obtain⟨q0,q1,q2,q3,q4,q5,q6⟩:=K.out.at r free ar.out;obtain⟨bx,k⟩:=K.out.row;have p0:=qH9 k (r*7);have p1:=qH9 k (r*7+1);have p2:=qH9 k (r*7+2);have p3:=qH9 k (r*7+3);have p4:=qH9 k (r*7+4);have p5:=qH9 k (r*7+5);have p6:=qH9 k (r*7+6);obtain⟨_,H,I,bn⟩:=K.out.set r bk ⟨1,o,m,j,l,⟨#[]⟩,⟨#[]⟩⟩;obtain⟨w6,ad⟩:=zB (w5.setCells g (r*7) (LRr.cl (⟨1,o,m,j,l,⟨#[]⟩,⟨#[]⟩⟩:Rr)));rw[ad]at H I;have c5:=(qH7 aj.out).2.2.2.2.2.1;have bw:=H.dm.rc;have b2:=H.dm.m8;have ah:∀y∈rs.set r ⟨1,o,m,j,l,⟨#[]⟩,⟨#[]⟩⟩,okR b0 z n X y:=fun y hy=>by
   rcases List.mem_or_eq_of_mem_set hy with h1|h1
   ·exact b3.out y h1
   ·rw[h1];exact bq.out
  have S6:=S5.out.below (I.drew) s.out;have a2:=H.blk;rw[ab.out]at a2;have ai:=yP (w6.drew.heap[D]? =_) a2;obtain⟨w7,w8,a8,a3,aa,a7,a6,au,O,x,bc⟩:=qJs (u':=qW ⟨#[]⟩) (v':=qV qj 0) (a':=qW d'.a) (b':=qX d'.ip d'.n d'.ic) (c':=qV qj d'.sh.room) (d':=qV qj d'.sh.clock) (e':=qX d'.sa (kG d'.sh.held) d'.sk) (f':=qX (qw ⟨g,0,qx⟩) d'.m d'.rc) (g':=qV qj (d'.dec:Int)) S6.b1 S6.b2 (by simp[Value.oneCell']) (by simp[Value.oneCell']);have az:=H.lo;have bd:=zH ((x D (by have:=s.out;omega)).trans ai.out);have aq:=yP (Dk b0 z n X w8 d' (rs.set r ⟨1,o,m,j,l,⟨#[]⟩,⟨#[]⟩⟩)/\yI E w w8) ⟨O ((H.dk ah).below (yN _ _).drew),(B5.out.1.trans ((I.drew).mono (by have:=s.out;omega))).trans (a6 E za za)⟩;obtain⟨bf,bo,R1,R2,bp⟩:=yT a8 a3 (qIv aa) (ld7 a7) ad;clear k H I bn ad ah S6 a2 a8 a3 aa a7 a6 au O x az;go_wp2;clear q0 q1 q2 q3 q4 q5 q6 p0 p1 p2 p3 p4 p5 p6 c5;rw[show(((((((w5.setCell ⟨g,r*7,qx⟩ (qV qj 1)).setCell ⟨g,r*7+1,qx⟩ (qV qj (o:Int))).setCell ⟨g,r*7+2,qx⟩ (qV qj (m:Int))).setCell ⟨g,r*7+3,qx⟩ (qV qj (j:Int))).setCell ⟨g,r*7+4,qx⟩ (qV qj (l:Int))).setCell ⟨g,r*7+5,qx⟩ (qW ⟨#[]⟩)).setCell ⟨g,r*7+6,qx⟩ (qW ⟨#[]⟩))=w6 from bp.out];refine zS [4] (fun c=>c.heap[D]? =qw (qm #[qW d'.a,qX d'.ip d'.n d'.ic,qV qj d'.sh.room,qV qj d'.sh.clock,qX d'.sa (kG d'.sh.held) d'.sk,qX (qw ⟨g,0,qx⟩) d'.m d'.rc,qV qj (d'.dec:Int)] TDk)) [0,0,0,5,15,31] 6<|zy 1 70 (.agg #[qW d'.a,qX d'.ip d'.n d'.ic,qV qj d'.sh.room,qV qj d'.sh.clock,qX d'.sa (kG d'.sh.held) d'.sk,qX (qw ⟨g,0,qx⟩) d'.m d'.rc,qV qj (d'.dec:Int)]) (fun w hS=>zl 39 13 (LD.out w hS)) ai.out<|zp [0,2]<|zk 69 (.agg #[qW ⟨#[]⟩,qV qj 0])<|zk 8 (qc yE)<|zn<|zw 3 qx (zr 44 9 69 (bf.out)) (.inr (.inr (bd.out)))<|zw 4 qx (zr 39 10 70 (bo.out)) (.inr (.inl zf))<|zp [5]<|zk 11 (qV qj 0)<|zn<|zE<| ?_
  simp only[zP,zI,Act.put,qPz,qPy,qP0];go_wp2;refine qP5 (v:=qZ #[qc yE,.agg #[qW ⟨#[]⟩,qV qj 0],.agg #[qW d'.a,qX d'.ip d'.n d'.ic,qV qj d'.sh.room,qV qj d'.sh.clock,qX d'.sa (kG d'.sh.held) d'.sk,qX (qw ⟨g,0,qx⟩) d'.m d'.rc,qV qj (d'.dec:Int)],qV qj 0]) ?_ rfl ?_
  ·exact qJc (t:=8) (p:=9) (q:=10) (u:=11) rfl _ _ _ ⟨E+1,0,qx⟩ ⟨E+1+1,0,qx⟩ _ _ rfl rfl R1.out R2.out
  ·exact⟨d',by rw[a1],aq.out.1,G.out.2.1,G.out.2.2.2,G.out.1,G.out.2.2.1,aq.out.2⟩
end Sk
namespace Sk
open Hf Bt Zr Wg Ch Sq Tn Sm Ix2 Sd
open Front (ival)
variable {lev n X o m:Nat} {a b:Int}
structure RF (ps:List T) (n:Nat) (sh0:yx) (dec0:Nat) (a b:Int) (sh:yx) (dec:Nat):Prop where
 room:sh.room=sh0.room
 wo:Wo n sh0 dec0->sh0.clock+1001<=1099511627776->dec0<=1000->sh.clock<=sh0.clock+1001/\Wo n sh dec/\(∀k,xY sh0 k->xY sh k)/\(∀k:Nat,0<=a->a<=(k:Int)->(k:Int)<=b->xY sh k)/\((∀k:Nat,0<=a->a<=(k:Int)->(k:Int)<=b->xY sh0 k)->dec=dec0)
def At8 (lev:Nat) (c:List T) (n X:Nat) (e:yx) (d o m:Nat) (a b:Int) (q:Dd) (k:Nat):Prop:=
 (q.dn=yE/\∃j l:Nat,a=(j:Int)/\b=(l:Int)/\J lev c n X e d o m j l q.sh q.dec q.r/\meas q.r<k)\/
 (q.dn=yD/\q.r=free/\q.tx=yw ((c.flatten.drop o).take m)/\q.c=(if X<o+m then 8 else 0)/\RF c n e d a b q.sh q.dec)
theorem At8.start {c:List T} (P:Ps lev c n) (q:kG c.flatten=X) (hv:Cov c n X o m a b) (s:m<1048576) (sh:yx) (dec:Nat) (t:xU (gP c) n sh) (i:dec<=1099511627776):At8 lev c n X sh dec o m a b (qI8 X sh dec o m a b) 100000:=by
 unfold qI8;rcases hv with⟨u,rfl,rfl⟩|⟨d,f,j,l,rfl,rfl,r,h⟩
 ·rw[qPr za];refine .inr ⟨rfl,rfl,?_,rfl,rfl,fun d f p=>⟨by show sh.clock<=_;omega,d,fun k g=>g,fun k g=>za,fun _=>rfl⟩⟩;have e:(c.flatten.drop o).take m=[]:=by
   apply qQz;rw[qQh,qQn];omega
  rw[e];exact Rle.qCh []
 ·rw[qPt za];refine .inl ⟨rfl,j,l,rfl,rfl,?_,?_⟩
  ·have:=J.start (sh:=sh) (dec:=dec) t i d s f r h q P;simpa using this
  ·have p:=h.lt;have w:=P.many;unfold meas;simp only[Int.toNat_natCast];omega
theorem At8.step {d:List T} (P:Ps lev d n) (B:kG d.flatten=X) {t:yx} {s:Nat} {q:Dd} {k:Nat} (h:At8 lev d n X t s o m a b q k) (H:q.dn=yE):∃w,w<k/\At8 lev d n X t s o m a b (deed d X q.sh q.dec q.r) w/\okR lev d n X (deed d X q.sh q.dec q.r).r/\(∃j,Wk lev d n X q.r j)/\(q.r.st=3->q.r.txt=gP d q.r.b):=by
 rcases h with⟨_,j,l,rfl,rfl,e,G⟩|⟨h,_⟩
 ·refine⟨meas q.r,G,?_⟩;rcases e.next P B with⟨i,f,p⟩|⟨i,f,p,z,r⟩
  ·exact⟨.inl ⟨i,j,l,rfl,rfl,f,p⟩,.inr ⟨j,f.wk⟩,⟨j,e.wk⟩,e.txt⟩
  ·refine⟨.inr ⟨i,f,p,z,r.room,fun u x y=> ?_⟩,.inl f,⟨j,e.wk⟩,e.txt⟩;have g:=r.wo u x y;have c1:=g.clk;have c:=e.wk.lst.lt;rw[e.el]at c;have L:=P.many;exact⟨za,⟨by rw[r.room];exact u.room,by have:=g.cnt;omega⟩,g.old,fun k _ I K=>g.new k za za,fun F=>g.idle (fun k I K=>F k za za za)⟩
 ·rw[H]at h;cases h
theorem qLi {fn:Func} {p q u:Tmp} {ty e:yA} (h:fn.results= #[.cell p ty,.cell q e,.tmp u]) (tmps:Array qz) (P:Program) (w:qy) (a b:yB) (v v':qz) (i:tmps.getD p yJ=qY (qw a)) (j:tmps.getD q yJ=qY (qw b)) (g:(loadVar ty a).run P w= .ok v w) (f:(loadVar e b).run P w= .ok v' w):
  (results fn tmps).run P w= .ok (qZ #[v,v',tmps.getD u yJ]) w:=by
 have c:tmps[p]?.getD yJ=qY (qw a):=by simpa using i
 have d:tmps[q]?.getD yJ=qY (qw b):=by simpa using j
 simp[results,h,c,d,asAddr,g,f,Result.andThen]
theorem qO6 {w:qy} {p q:Nat} {u v u' v':qz} {a b c d e f g a' b' c' d' e' f' g':qz} (r:w.heap[p]? =qw (qm #[u,v] TRp)) (s:w.heap[q]? =qw (qm #[a,b,c,d,e,f,g] TDk)) {W:qy} (t:(w.setCells p 0 [u',v']).setCells q 0 [a',b',c',d',e',f',g']=W):
  W.heap[p]? =qw (qm #[u',v'] TRp)/\W.heap[q]? =qw (qm #[a',b',c',d',e',f',g'] TDk)/\(∀D,D<=p->D<=q->yI D w W)/\(∀{lev n X:Nat} {z:List T} {y:DV} {B:List Rr},Dk lev z n X w y B->Dk lev z n X W y B):=by
 have hne:q≠p:=fun e=>by
  rw[e,r]at s;exact absurd (qRf (qPv s)).2.1 z8
 have i:∀k,k≠p->(w.setCells p 0 [u',v']).heap[k]? =w.heap[k]? :=fun k x=>Kit.zAo _ w p 0 k x;have F:=Kit.zDl [u',v'] w p 0 _ _ _ r;rw[show xI #[u,v] 0 [u',v']= #[u',v']by simp[xI]]at F;have l:=(i q hne).trans s;have j:∀k,k≠q->W.heap[k]? =(w.setCells p 0 [u',v']).heap[k]? :=fun k x=>by rw[<-t];exact Kit.zAo _ _ q 0 k x
 have z2:=Kit.zDl [a',b',c',d',e',f',g'] (w.setCells p 0 [u',v']) q 0 _ _ _ l;rw[show xI #[a,b,c,d,e,f,g] 0 [a',b',c',d',e',f',g']= #[a',b',c',d',e',f',g']by simp[xI],t]at z2;exact⟨(j p hne.symm).trans F,z2,fun D G H=>by rw[<-t];exact(yt _ p 0 (yN _ _) G).trans (yt _ q 0 (yN _ _) H),fun h=>(h.far r z8 z8 z8 i).far l z8 z8 z8 j⟩
structure RQ (lev:Nat) (ps:List T) (n X:Nat) (w0 w:qy) (E K:Nat) (d:DV) (rs:List Rr) (r:Nat) (q:Dd) (d':DV):Prop where
 k0:w.heap[K]? =qw (qm #[qW q.tx,qV qj q.c] TRp)
 k1:w.heap[K+1]? =qw (qm d'.cl TDk)
 sw:SW3 w E d (qW ⟨#[]⟩) (qV qj 0) ZD
 ek:E+3<=K
 bl:yI E w0 w
 dk:Dk lev ps n X w d' (rs.set r q.r)
 eh:d'.sh=q.sh
 ed:d'.dec=q.dec
 ea:d'.a=d.a
 em:d'.m=d.m
theorem qL4 (lev n X:Nat) (z:List T) (P:Ps lev z n) (hX:kG z.flatten=X) (A:Arc lev z (zCt lev z) n) (N:(zCt lev z).size<=100000000) (d:DV) (rs:List Rr) (r o m:Nat) (a b:Int) (hx:rs[r]? =qw free) (hv:Cov z n X o m a b) (ho:o<=100000000) (hm:m<1048576) (b0:d.a=zCt lev z) (w:qy) (hd:Dk lev z n X w d rs):
  yC yG 15 #[d.v,qV qj (r:Int),qV qj (o:Int),qV qj (m:Int)] w fun e w'=>∃d',e=qp (qZ #[.agg #[qW (yw ((z.flatten.drop o).take m)),qV qj (if X<o+m then 8 else 0)],d'.v,qV qj 0])/\Dk lev z n X w' d' rs/\RF z n d.sh d.dec a b d'.sh d'.dec/\d'.a=d.a/\d'.m=d.m/\yI w.heap.size w w':=by
 obtain⟨cE,a5⟩:∃c:Int,(if X<o+m then 8 else 0)=c:=⟨_,rfl⟩;rw[a5];have av:=zH a5;clear a5;have a2:=At8.start P hX hv hm d.sh d.dec ⟨hd.rgt,hd.held⟩ hd.dec;obtain⟨q0,V⟩:=zB (qI8 X d.sh d.dec o m a b);obtain⟨E,hE⟩:=zB w.heap.size;obtain⟨W,hW⟩:=zB (((w.alloc (qm d.cl TDk)).alloc (qm #[qW ⟨#[]⟩,qV qj 0] TRp)).alloc (qm ZD TDk));have S:=SW3.start w d;rw[hW,hE]at S;have a3:yI E w W:=by rw[<-hW,<-hE];exact(((yN _ _).alloc (qPq _) _).alloc (by simp only[zA];omega) _).alloc (by simp only[zA];omega) _
 have ab:W.heap.size=E+3:=by rw[<-hW];simp only[zA];omega
 have HA:=qOd lev n X z P hX d rs r o m a b hx hv ho hm W (hd.below (by rw[hE];exact a3));have b3:qI8 X d.sh d.dec o m a b=q0:=V;have ak:q0.sh=d.sh/\q0.dec=d.dec:=by rw[<-V];unfold qI8;split<;>exact⟨rfl,rfl⟩
 rw[V]at a2 HA;have ao:=zH (fun(d':DV) (q:Dd) (w':qy) (x1:(rs.set r q.r)[r]? =qw q.r) (j:Nat) (O:Wk lev z n X q.r j) (ht:q.r.st=3->q.r.txt=gP z q.r.b) (e1:d'.sh=q.sh) (e2:d'.dec=q.dec) (e3:d'.a=d.a) (R:okR lev z n X (deed z X d'.sh d'.dec q.r).r) (g:Dk lev z n X w' d' (rs.set r q.r))=>
  qM5 lev n X z P hX A N d' (rs.set r q.r) r j q.r x1 O ht (e3.trans b0) R w' g)
 obtain⟨ar,HA,A0,S0,B0,Z0,HE,HW,ac⟩:=yY (fun(q:Dd) (k:Nat) (h:At8 lev z n X d.sh d.dec o m a b q k) (hq:q.dn=yE)=>h.step P hX hq) HA a2 S a3 ab hE hW ak;have a6:=zH hx;have L:=S.b0;unfold DV.cl at L;obtain⟨y0,y1,y2,y3,y4,y5,y6⟩:=qH7 L;rw[hE];clear P hX S a3 ab hE hW V b3 ak a2 hd L hx hv b0 N A;unfold DV.v at HA⊢;unfold DV.cl at HA HW⊢;go_enter func15,ntmps15;go_wp2_with fail;rw[HE.out,show((w.alloc (qm #[qW d.a,qX d.ip d.n d.ic,qV qj d.sh.room,qV qj d.sh.clock,qX d.sa (kG d.sh.held) d.sk,qX d.rp d.m d.rc,qV qj (d.dec:Int)] TDk)).alloc (qm #[qW ⟨#[]⟩,qV qj 0] TRp)).alloc (qm ZD TDk)=W from HW.out];clear y0 y1 y2 y3 y4 y5 y6;(with_reducible refine HA.out.mono ?_);rintro e w1 ⟨d1,rfl,ae,e1,e2,e3,e4,Y⟩;obtain⟨K,hK⟩:=zB w1.heap.size;have B:yI K w1 ((w1.alloc (qm #[qW q0.tx,qV qj q0.c] TRp)).alloc (qm d1.cl TDk)):=by rw[<-hK];exact((yN _ _).alloc (qPq _) _).alloc (by rw[zA];omega) _
 have a0:E+3<=K:=by have:=Y.size;rw[Z0.out]at this;omega
 have aj:RQ lev z n X w ((w1.alloc (qm #[qW q0.tx,qV qj q0.c] TRp)).alloc (qm d1.cl TDk)) E K d rs r q0 d1:=
  ⟨by rw[<-hK];exact(Lib.alloc_old _ _ _ (by rw[zA];omega)).trans (zAh w1 _),by rw[<-hK,<-zA w1 (qm #[qW q0.tx,qV qj q0.c] TRp)];exact zAh _ _,(S0.out.below Y (by rw[Z0.out];exact qPq _)).below B a0,a0,(B0.out.trans (Y.mono (by rw[Z0.out];omega))).trans (B.mono za),ae.below (by rw[hK];exact B),e1.trans ac.out.1.symm,e2.trans ac.out.2.symm,e3,e4⟩
 obtain⟨R0,HK⟩:=yQ aj hK;clear ae e1 e2 e3 e4 Y B aj a0 hK HA;go_wp2;rw[HK.out];go_loopg [11,14] (100000) (fun kx dn er wr=>∃(q:Dd) (d':DV),dn=qc q.dn/\er=qV qj 0/\yH (RQ lev z n X w wr E K d rs r q d')/\yH (At8 lev z n X d.sh d.dec o m a b q kx))
 case atStart=>exact⟨q0,d1,rfl,rfl,R0,A0⟩
 case round=>
  obtain⟨q,d',rfl,rfl,hR,hA⟩:=hrel;have I:=hR.out.k1;unfold DV.cl at I;cases hq:q.dn with
  |false=>
   obtain⟨k',ap,a8,R,⟨j,O⟩,t⟩:=ar.out q gk hA.out hq;have ai:(rs.set r q.r)[r]? =qw q.r:=by rw[qSv,qPr rfl,qPr (h_lt a6.out)]
   have hs:=ao.out d' q wr ai j O t hR.out.eh hR.out.ed hR.out.ea (by rw[hR.out.eh,hR.out.ed];exact R) hR.out.dk;rw[hR.out.eh,hR.out.ed]at hs;obtain⟨q2,a4⟩:=zB (deed z X q.sh q.dec q.r);rw[a4,List.set_set]at hs;rw[a4]at a8;obtain⟨HS,az⟩:=yQ hs a8;obtain⟨y0,y1,y2,y3,y4,y5,y6⟩:=qH7 I;unfold DV.v DV.cl at HS;clear hs a8 R O t ai a4 I hA;go_wp2_with fail;clear y0 y1 y2 y3 y4 y5 y6;(with_reducible refine HS.out.mono ?_);rintro e w5 ⟨y,rfl,g,p1,p2,p3,p4,H⟩;have a1:=hkeep hR.out.k0 H;have f:=hkeep hR.out.k1 H;unfold DV.cl at f;obtain⟨w6,Z⟩:=zB ((w5.setCells K 0 [qW q2.tx,qV qj q2.c]).setCells (K+1) 0 [qW y.a,qX y.ip y.n y.ic,qV qj y.sh.room,qV qj y.sh.clock,qX y.sa (kG y.sh.held) y.sk,qX y.rp y.m y.rc,qV qj (y.dec:Int)]);obtain⟨z1,z2,x,l⟩:=qO6 a1 f Z;have N:=zAd hR.out.k1;have G:=hR.out.ek;have R6:=yP (RQ lev z n X w w6 E K d rs r q2 y) ⟨z1,z2,(hR.out.sw.below H za).below (x K (qPq _) za) G,G,(hR.out.bl.trans (H.mono za)).trans (x E za za),l g,p1,p2,p3.trans hR.out.ea,p4.trans hR.out.em⟩;obtain⟨x0,x1,x2,x3⟩:=qIa a1;obtain⟨y0,y1,y2,y3,y4,y5,y6⟩:=qH7 f;have f0:=qH9 f 0;have f1:=qH9 f 1;have f2:=qH9 f 2;have f3:=qH9 f 3;have f4:=qH9 f 4;have f5:=qH9 f 5;have f6:=qH9 f 6;have ay:=zH Z;clear g p1 p2 p3 p4 H a1 f Z z1 z2 x l N G HS;go_wp2;clear x0 x1 x2 x3 y0 y1 y2 y3 y4 y5 y6 f0 f1 f2 f3 f4 f5 f6;rw[show((((((((w5.setCell ⟨K,0,qx⟩ (qW q2.tx)).setCell ⟨K,1,qx⟩ (qV qj q2.c)).setCell ⟨K+1,0,qx⟩ (qW y.a)).setCell ⟨K+1,1,qx⟩ (qX y.ip y.n y.ic)).setCell ⟨K+1,2,qx⟩ (qV qj y.sh.room)).setCell ⟨K+1,3,qx⟩ (qV qj y.sh.clock)).setCell ⟨K+1,4,qx⟩ (qX y.sa (kG y.sh.held) y.sk)).setCell ⟨K+1,5,qx⟩ (qX y.rp y.m y.rc)).setCell ⟨K+1,6,qx⟩ (qV qj (y.dec:Int))=w6 from ay.out];go_roundg k'
   case measure=>exact ap
   case rel=>exact⟨q2,y,rfl,rfl,R6,az⟩
  |true=>
   have s:q.r=free/\q.tx=yw ((z.flatten.drop o).take m)/\q.c=(if X<o+m then 8 else 0)/\RF z n d.sh d.dec a b q.sh q.dec:=by
    rcases hA.out with⟨h,_⟩|⟨_,h⟩
    ·rw[hq]at h;cases h
    ·exact h
   have g:=hR.out.dk;rw[s.1]at g;have ag:rs.set r free=rs:=by
    apply qRt;intro i;rw[qSv];split
    ·next e=>subst e;rw[qPr (h_lt a6.out),a6.out]
    ·rfl
   rw[ag]at g;obtain⟨tx,t⟩:=zB q.tx;obtain⟨cc,a7⟩:=zB q.c;have k0:=hR.out.k0;rw[t,a7]at k0;have S1:=hR.out.sw.below (yN (E+3) wr).drew (qPq _);obtain⟨w7,w8,af,a9,ah,ad,x,an,l,F,b1⟩:=qJs (u':=qW tx) (v':=qV qj cc) (a':=qW d'.a) (b':=qX d'.ip d'.n d'.ic) (c':=qV qj d'.sh.room) (d':=qV qj d'.sh.clock) (e':=qX d'.sa (kG d'.sh.held) d'.sk) (f':=qX d'.rp d'.m d'.rc) (g':=qV qj (d'.dec:Int)) S1.b1 S1.b2 (by simp[Value.oneCell']) (by simp[Value.oneCell']);have M:=yP (wr.drew.heap[K]? =qw (qm #[qW tx,qV qj cc] TRp)/\wr.drew.heap[K+1]? =qw (qm #[qW d'.a,qX d'.ip d'.n d'.ic,qV qj d'.sh.room,qV qj d'.sh.clock,qX d'.sa (kG d'.sh.held) d'.sk,qX d'.rp d'.m d'.rc,qV qj (d'.dec:Int)] TDk)) (yO k0 I);have G:=hR.out.ek;obtain⟨ax,L0,L1⟩:=yR (yO ((F K za).trans M.out.1) ((F (K+1) za).trans M.out.2)) (fun(W9:qy) (h:W9.heap[K]? =qw (qm #[qW tx,qV qj cc] TRp)/\W9.heap[K+1]? =qw (qm #[qW d'.a,qX d'.ip d'.n d'.ic,qV qj d'.sh.room,qV qj d'.sh.clock,qX d'.sa (kG d'.sh.held) d'.sk,qX d'.rp d'.m d'.rc,qV qj (d'.dec:Int)] TDk))=>qIv h.1) (fun(W9:qy) (h:W9.heap[K]? =qw (qm #[qW tx,qV qj cc] TRp)/\W9.heap[K+1]? =qw (qm #[qW d'.a,qX d'.ip d'.n d'.ic,qV qj d'.sh.room,qV qj d'.sh.clock,qX d'.sa (kG d'.sh.held) d'.sk,qX d'.rp d'.m d'.rc,qV qj (d'.dec:Int)] TDk))=>ld7 h.2);have am:=yP (Dk lev z n X w8 d' rs/\RF z n d.sh d.dec a b d'.sh d'.dec/\d'.a=d.a/\d'.m=d.m/\yI E w w8) ⟨l (g.below (yN _ _).drew),by rw[hR.out.eh,hR.out.ed];exact s.2.2.2,hR.out.ea,hR.out.em,hR.out.bl.drew.trans (x E za za)⟩;obtain⟨aa,aq,au,Z1,Z2⟩:=yT (yO (t.symm.trans s.2.1) (a7.symm.trans (s.2.2.1.trans av.out))) af a9 (qIv ah) (ld7 ad);clear s g ag t a7 k0 S1 af a9 ah ad x an l F G I hA hR;go_wp2;refine zS [4] (fun W9=>W9.heap[K]? =qw (qm #[qW tx,qV qj cc] TRp)/\W9.heap[K+1]? =qw (qm #[qW d'.a,qX d'.ip d'.n d'.ic,qV qj d'.sh.room,qV qj d'.sh.clock,qX d'.sa (kG d'.sh.held) d'.sk,qX d'.rp d'.m d'.rc,qV qj (d'.dec:Int)] TDk)) [0,0,0,1,11,31] 6<|zu 2 41 (qV qj 0)<|zy 1 40 (.agg #[qW d'.a,qX d'.ip d'.n d'.ic,qV qj d'.sh.room,qV qj d'.sh.clock,qX d'.sa (kG d'.sh.held) d'.sk,qX d'.rp d'.m d'.rc,qV qj (d'.dec:Int)]) (fun w hS=>zl 39 13 (L1.out w hS)) M.out<|zp [0]<|zt 39 (.agg #[qW tx,qV qj cc]) ((fun w hS=>zl 44 12 (L0.out w hS)) _ (M.out))<|zn<|zw 3 qx (zr 44 8 39 (aq.out)) (.inr (.inr (ax.out)))<|zw 4 qx (zr 39 9 40 (au.out)) (.inr (.inl zf))<|zp [5]<|zk 10 (qV qj 0)<|zn<|zE<| ?_
   simp only[zP,zI,Act.put,qPz,qPy,qP0];go_wp2;refine qP5 (v:=qZ #[.agg #[qW tx,qV qj cc],.agg #[qW d'.a,qX d'.ip d'.n d'.ic,qV qj d'.sh.room,qV qj d'.sh.clock,qX d'.sa (kG d'.sh.held) d'.sk,qX d'.rp d'.m d'.rc,qV qj (d'.dec:Int)],qV qj 0]) ?_ rfl ?_
   ·exact qLi (p:=8) (q:=9) (u:=10) rfl _ _ _ ⟨E+1,0,qx⟩ ⟨E+1+1,0,qx⟩ _ _ rfl rfl Z1.out Z2.out
   ·exact⟨d',by rw[<-aa.out.1,<-aa.out.2],am.out⟩
end Sk
end Go.Proofs.YtppnakkaljbmbaaGreatDoor
