/- Steps of a proof; no condition beyond what each states. -/
import Derived.Test.YtppnakkaljbmbaaGreatDoorZX00
import Derived.Test.YtppnakkaljbmbaaGreatDoorZX07
set_option linter.unusedVariables false
set_option linter.unusedSimpArgs false
set_option maxRecDepth 100000
set_option maxHeartbeats 8000000
open List renaming length->kG
open Go.Proofs.YtppnakkaljbmbaaGreatDoor.Kit renaming Own'->yj,zAo->xB,zAw->xG
open Go.RowKit
open Go.Proofs.Tryz
open Go.Value renaming int->qV,slice->qX,pointer->qY,bool->qc
open Go.IntKind renaming i64->qj
open Go.Obj renaming cells->qm
open Go.Ending renaming returned->qp
open Option renaming some->qw,none->qx
open Go renaming World->qy,Value->qz,TypeId->yA,Addr->yB,Calls->yC,undef->yJ
open Bool renaming true->yD,false->yE
open Go.Proofs.Tryz renaming prog->yG
open Go.RowKit renaming Hid->yH,Below->yI
open Go.RowKit.Below renaming refl->yN
namespace Go.Proofs.YtppnakkaljbmbaaGreatDoor
namespace Wg
open Bt Zr Front
variable {w:qy} {B g n c R i X last f k:Nat} {e:yA} {l m:List (Nat×Nat)} {a:Option yB} {x:Nat×Nat}
theorem qC4 (h:yj TL w B e (qw ⟨g,0,qx⟩) n c l):g<w.heap.size:=by
 obtain⟨_,_,d,f,b⟩:=zE3 h;exact zAd b
theorem zOl (h:yj TL w B e (qw ⟨g,0,qx⟩) n c l) (k:Nat) (q:k<=n):yj TL w B e (qw ⟨g,0,qx⟩) k c (l.take k):=by
 have t:=h.len;obtain⟨z,j⟩:=h;rcases j with⟨j,_⟩|⟨g',u,a,hv,b,p,y,d,r,s⟩
 ·cases j
 ·injection hv with ha hn hc
  injection ha with ha
  injection ha with ha
  subst ha hc;have e:Kit.flat TL (l.take k)=(Kit.flat TL l).take (k*TL.k):=by
   have o:=Kit.zKo TL (l.take k) (l.drop k);rw[qR9]at o;rw[o,List.take_left' (by rw[Kit.zBg,qQh];congr 1;omega)]
  refine⟨by rw[Kit.zBg,qQh];congr 1;omega,.inr ⟨g,c,a,rfl,b,p,za,d,r,?_⟩⟩;rw[e,<-s,List.take_take];congr 1;have:k*TL.k<=n*TL.k:=qRp _ q;omega
theorem Qu.cut (h:Qu w R (qw ⟨g,0,qx⟩) c l) (k:Nat) (b:k<=kG l):
  Qu (w.setCell ⟨R,0,qx⟩ (qX (qw ⟨g,0,qx⟩) k c)) R (qw ⟨g,0,qx⟩) c (l.take k)/\StT w (w.setCell ⟨R,0,qx⟩ (qX (qw ⟨g,0,qx⟩) k c)) R:=by
 have d:kG (l.take k)=k:=by rw[qQh];omega
 refine⟨⟨?_,?_⟩,⟨fun j _ o _=>zAa o,(yN _ _).setCell (p:=⟨R,0,qx⟩) (qPq _) _⟩⟩
 ·rw[d,setBlock 0 h.blk];rfl
 ·rw[d];exact qRy (zOl h.own k b) (zB1 w R 0 _) (.inr (zJt (zOl h.own k b) h.blk z8))
theorem Qu.hd (h:Qu w R a c l) (d:kG l=n):(loadVar 297 ⟨R,0,qx⟩).run yG w= .ok (qX a n c) w:=by
 obtain⟨b,_,_,_⟩:=zAf h.blk;rw[d]at b;exact Kit.zAg b zf zf
theorem Qu.fn (h:Qu w R a c l):(loadVar 296 ⟨R,1,qx⟩).run yG w= .ok QF w:=by
 obtain⟨_,b,_,_⟩:=zAf h.blk;exact Kit.zAg b zf zf
theorem Qu.ldx {p:Nat×Nat} (h:Qu w R (qw ⟨g,0,qx⟩) c l) (hi:i<kG l) (b:at_ l i=p):(loadVar TT ⟨g,i*2,qx⟩).run yG w= .ok (tv p) w:=by
 rw[<-b];exact h.ld i hi
def Bx (w:qy) (X:Nat) (x:Nat×Nat):Prop:=w.heap[X]? =qw (qm #[qV qj (x.1:Int),qV qj (x.2:Int)] TT)
theorem Bx.ld (h:Bx w X x):(loadVar TT ⟨X,0,qx⟩).run yG w= .ok (tv x) w:=by
 obtain⟨d,j,_,_⟩:=zAf h;exact Kit.zHe (L:=TL) (b:=X) (off:=0) (x:=x) (fun i hi=>by
  have:i=0\/i=1:=by have o:i<2:=hi;omega
  rcases this with rfl|rfl
  ·exact d
  ·exact j) szT qBq
theorem Bx.set (h:Bx w X x) (y:Nat×Nat):(storeVar TT ⟨X,0,qx⟩ (tv y)).run yG w= .ok () (w.setCells X 0 (TL.cl y))/\Bx (w.setCells X 0 (TL.cl y)) X y:=by
 obtain⟨p,q,b,d⟩:=zAf h;refine⟨qSm (P:=yG) w X 0 TT (TL.cl y).toArray (fun j o=> ?_) zf (by simp[TL,Value.oneCell']),Kit.zDl _ _ _ _ _ _ _ h⟩;have:j=0\/j=1:=by have r:j<2:=o;omega
 rcases this with rfl|rfl
 ·exact⟨by rw[show 0+0=0 from rfl,p];rfl,b⟩
 ·exact⟨by rw[show 0+1=1 from rfl,q];rfl,d⟩
theorem Qu.put (h:Qu w R (qw ⟨g,0,qx⟩) c l) (b:R≠X) (d:g≠X) (v:qz):Qu (w.setCell ⟨X,i,qx⟩ v) R (qw ⟨g,0,qx⟩) c l:=
 ⟨(zAa b).trans h.blk,qRy h.own (zB1 w X i v) (.inr (by intro e;simp[Value.ownBlock]at e;exact d e))⟩
theorem StT.put {w':qy} (h:StT w w' R) (r:Bx w' X x) (q:w.heap.size<=X) (b:R<=X) (u v:qz):StT w ((w'.setCell ⟨X,0,qx⟩ u).setCell ⟨X,1,qx⟩ v) R:=by
 refine⟨fun k d j o=> ?_,(h.below.setCell (p:=⟨X,0,qx⟩) b u).setCell (p:=⟨X,1,qx⟩) b v⟩;rw[zAa za,zAa za];exact h.old k d j o
theorem zKf (tmps:Array qz) (w:qy) (B:Nat) (p:Nat×Nat) (b:tmps.getD 2 yJ=qY (qw ⟨B,0,qx⟩)) (d:(loadVar TT ⟨B,0,qx⟩).run yG w= .ok (tv p) w):
  (results f178 tmps).run yG w= .ok (tv p) w:=by
 rw[qU]at b;simp[results,f178,b,asAddr,qRk,d,Result.andThen]
structure Seen (m:List (Nat×Nat)) (last i f k:Nat):Prop where
 lo:2*i+1<=k
 hi:k<=2*i+3
 who:f=i\/(2*i+1<=f/\f<k/\f<last/\lq (at_ m f) (at_ m i)=yD)
 all:∀j,2*i+1<=j->j<k->j<last->lq (at_ m j) (at_ m f)=yE
theorem Seen.no (h:Seen m last i f k) (r:k<=2*i+2) (q:lq (at_ m k) (at_ m f)=yE):Seen m last i f (k+1):=by
 refine⟨by have:=h.lo;omega,za,?_,fun j b o d=> ?_⟩
 ·rcases h.who with b|⟨b,o,d,p⟩
  ·exact .inl b
  ·exact .inr ⟨b,za,d,p⟩
 ·by_cases e:j=k
  ·subst e;exact q
  ·exact h.all j b za d
theorem Seen.yes (h:Seen m last i f k) (s:k<=2*i+2) (r:k<last) (o:lq (at_ m k) (at_ m f)=yD):Seen m last i k (k+1):=by
 refine⟨by have:=h.lo;omega,za,.inr ⟨h.lo,qQ6 _,r,?_⟩,fun j b q p=> ?_⟩
 ·rcases h.who with b|⟨b,q,p,d⟩
  ·rw[<-b];exact o
  ·exact zF3.trans _ _ _ o d
 ·by_cases e:j=k
  ·subst e;exact zF3.irrefl _
  ·have d:=h.all j b za p;cases h5:lq (at_ m j) (at_ m k)with
   |false=>rfl
   |true=>rw[zF3.trans _ _ _ h5 o]at d;cases d
theorem zTk (R:Nat) (a:Option yB) (c:Nat) (l:List (Nat×Nat)) (w:qy) (hq:Qu w R a c l) (bq:1<=kG l) (hl:kG l<=1000) (hp:Hp lq (kG l) (at_ l)):
  yC yG 178 #[qY (qw ⟨R,0,qx⟩)] w fun e w'=>e=qp (tv (at_ l 0))/\∃a' c' l',Qu w' R a' c' l'/\l.Perm (at_ l 0::l')/\Hp lq (kG l') (at_ l')/\StT w w' R:=by
 obtain⟨g,rfl⟩:=hq.here za;obtain⟨B,hB⟩:=zB w.heap.size;have bi:=hq.lt;have bo:=qC4 hq.own;have bw:=(zE3 hq.own).1;have bf:=(zE3 hq.own).2.1;rw[hB]at bi bo;obtain⟨W,hW⟩:=zB (w.alloc (qm #[qV qj 0,qV qj 0] TT));have zW:W.heap.size=B+1:=by rw[<-hW,zA,hB]
 have af:yI B w W:=by rw[<-hW,<-hB];exact(yN _ _).alloc (qPq _) _
 have a9:=(hq.below af hB.symm).drew;have az:Bx W.drew B (0,0):=by
  show W.heap[B]? =_;rw[<-hW,<-hB];show(w.heap.push _)[w.heap.size]? =_;simp
 obtain⟨n,hn⟩:=zB (kG l);obtain⟨last,I⟩:=zB (n-1);rw[hn]at bq hl hp bf;obtain⟨q,a4⟩:=zB (at_ l 0);obtain⟨pl,ab⟩:=zB (at_ l last);have Q0:=zH a9;obtain⟨w1,L⟩:=zB (W.drew.alloc (qm #[qV qj 0,qV qj 0] TT));have z1:w1.heap.size=B+2:=by rw[<-L,zA];show W.heap.size+1=_;omega
 have ah:Bx w1 (B+1) (0,0):=by
  show w1.heap[B+1]? =_;rw[<-L,<-zW];show(W.heap.push _)[W.heap.size]? =_;simp
 have u:yI (B+1) W.drew w1:=by rw[<-L,<-zW];exact(show yI W.drew.heap.size W.drew _ from(yN _ _).alloc (qPq _) _)
 have a1:=a9.below u zW.symm;have ai:Bx w1 B (0,0):=(u.block B za).trans az;obtain⟨s1,a8⟩:=ah.set q;obtain⟨w2,P⟩:=zB (w1.setCells (B+1) 0 (TL.cl q));rw[P]at s1 a8;have S1:=zH s1;have d:yI (B+1) w1 w2:=by rw[<-P];exact Kit.below_setCells _ _ _ (yN _ _) (qPq _)
 have z2:w2.heap.size=B+2:=by rw[<-P,Kit.size_setCells,z1]
 have b:Qu w2 R (qw ⟨g,0,qx⟩) c l:=⟨(d.block R za).trans a1.blk,by
  obtain⟨h1,h2⟩:=a1.own;refine⟨h1,?_⟩;rcases h2 with h2|⟨g',bj,b8,hv,bd,bg,r⟩
  ·exact .inl h2
  ·refine .inr ⟨g',bj,b8,hv,bd,?_,r⟩;have bb:=hv;injection bb with ha _ _
   injection ha with ha
   injection ha with ha
   subst ha;rw[d.block g za,bg]⟩
 have G:Bx w2 B (0,0):=(d.block B za).trans ai;have a7:=b.drew;obtain⟨Q1,Q2,Q3⟩:=yR a1 b a7;obtain⟨s3,S,t4⟩:=a7.set 0 za pl;obtain⟨w4,O⟩:=zB (w2.drew.setCells g (0*2) (TL.cl pl));rw[O]at s3 S t4;have S3:=zH s3;have an:Bx w4 (B+1) q:=by rw[<-O];exact(xB _ _ _ _ _ za).trans a8
 have ak:Bx w4 B (0,0):=by rw[<-O];exact(xB _ _ _ _ _ za).trans G
 have ad:kG (l.set 0 pl)=n:=by rw[qR1,hn]
 obtain⟨y0,_,y2,_⟩:=zAf S.blk;rw[ad]at y0;obtain⟨a6,t5⟩:=S.cut last (by rw[ad];omega);obtain⟨w5,a0⟩:=zB (w4.setCell ⟨R,0,qx⟩ (qX (qw ⟨g,0,qx⟩) last c));rw[a0]at a6 t5;have aq:Bx w5 (B+1) q:=by rw[<-a0];exact(zAa za).trans an
 have ar:Bx w5 B (0,0):=by rw[<-a0];exact(zAa za).trans ak
 have ac:(l.set 0 pl).take last=zEa l:=by unfold zEa;rw[hn,I,show l.getD last (0,0)=pl from ab]
 rw[ac]at a6;have b6:kG (zEa l)=last:=by rw[qBb,hn,I]
 have T5:=yP (StT w w5 R) (by
  have c1:StT w W.drew R:=(StT.of_below (hB▸af) za).trans (StT.of_below (yN _ _).drew za);have c2:StT W.drew w1 R:=⟨fun k h1 _ _=>u.block k (by have h2:k<W.heap.size:=h1;omega),u.mono za⟩;have c3:StT W.drew w2 R:=⟨fun k h1 _ _=>(d.block k (by have h2:k<W.heap.size:=h1;omega)).trans (u.block k (by have h2:k<W.heap.size:=h1;omega)),(u.trans d).mono za⟩;exact((c1.trans c3).trans (StT.of_below (w':=w2.drew) (yN _ _).drew za)).trans (t4.trans t5))
 obtain⟨ao,ap,ay⟩:=yR a6 aq ar;have HD:=yP (Dn lq last 0 (at_ (zEa l))) (Dn.start (n:=last) (by rw[show last+1=n by omega];exact hp) (fun k h1 h2=>qE l k h1 za));have HP:=yP (l.Perm (q::zEa l)) (a4▸zYa l (by intro e;rw[e]at hn;simp at hn;omega));have b4:=zH b6;have X:IntKind.i64.wrap ((n:Int)-1)=(last:Int):=by rw[show(n:Int)-1=(last:Int)by omega];exact qQb _ ⟨za,za⟩
 obtain⟨b7,am⟩:=yQ X hB;have ZW:=yP (W.drew.heap.size=B+1) zW;obtain⟨au,HN,b9,ba⟩:=yS L hn a4 ab;rw[a4];clear hq hp af a9 az ah u a1 ai s1 a8 d b G a7 s3 S t4 an ak ad a6 t5 aq ar ac b6 a4 ab z1 z2 P hn X L zW;have aj:last+1=n:=za
 have br:=zH aj;have c8:last<n:=za
 have c7:last<=c:=za
 have bu:¬c=0:=za
 have ca:n<=1000:=hl;clear I aj;go_enter func178,ntmps178;go_wp2;clear hW;refine zS [] (fun W9=>Qu W9 R (qw ⟨g,0,qx⟩) c l) [0,1,2,4,8,16,0,64,128,256,512,1024,0,4159,16383] 15<|zu 0 8 (zP R 0)<|zu 1 9 (zP R 0)<|zu 2 10 (zP R 0)<|zu 6 14 (zP R 0)<|zu 7 15 (zP R 0)<|zu 8 16 (zP R 0)<|zy 3 11 (qX (qw ⟨g,0,qx⟩) n c) (fun w hS=>zl 297 10 (hS.hd HN.out)) Q0.out<|zv 4 12 (zP g 0) (fun w=>xG (t:=297) (x:=(.tmp 11)) (y:=(.const (qV qj 0))) (g:=g) (n:=n) (c:=c) (k:=(0:Nat)) (sz:=2) rfl zf zf za underlying297 (fun _=>sizeOf295 _) _)<|zy 5 13 (tv q) (fun w hS=>zl 295 12 (hS.ldx (i:=0) (by rw[HN.out];omega) b9.out)) Q0.out<|zy 9 17 (qX (qw ⟨g,0,qx⟩) n c) (fun w hS=>zl 297 16 (hS.hd HN.out)) Q0.out<|zu 10 18 (zI n)<|zv 11 19 (zI last) (fun w=>Kit.zM6 (x:= .tmp 18) (y:= .const (qV qj 1)) rfl zf zf b7.out _)<|zo 12 3 (qY (qw ⟨B+1,0,qx⟩)) (Kit.zDa zf ZW.out au.out) (.inr (.inr (Q1.out)))<|zw 13 qx (zr 295 3 13 (S1.out)) (.inr (.inr (Q2.out)))<|zp [14]<|zk 4 (zI last)<|zn<|zE<| ?_
 simp only[zP,zI,Act.put,qPz,qPy,qP0];clear S1 Q0 Q1 Q2 ZW au;go_wp2;refine zS [] (fun _=>True) [0,1,2,4,0,16,32,64,0,384,512,2047,4095] 13<|zp [0,1,2,3,4,5,6,7,8,9,10,11]<|zk 20 (zP R 0)<|zk 21 (zP R 0)<|zk 22 (zP R 0)<|zt 23 (qX (qw ⟨g,0,qx⟩) n c) (zl 297 22 (Q3.out.hd HN.out))<|zk 24 (zP R 0)<|zk 25 (zP R 0)<|zk 26 (zP R 0)<|zt 27 (qX (qw ⟨g,0,qx⟩) n c) (zl 297 26 (Q3.out.hd HN.out))<|zk 28 (zI last)<|zt 29 (qY (qw ⟨g,last*2,qx⟩)) (xG (t:=297) (x:=(.tmp 27)) (y:=(.tmp 28)) (g:=g) (n:=n) (c:=c) (k:=last) (sz:=2) rfl zf zf za underlying297 (fun _=>sizeOf295 _) _)<|zt 30 (tv pl) (zl 295 29 (Q3.out.ldx (by rw[HN.out];omega) ba.out))<|zt 31 (zP g 0) (xG (t:=297) (x:=(.tmp 23)) (y:=(.const (qV qj 0))) (g:=g) (n:=n) (c:=c) (k:=(0:Nat)) (sz:=2) rfl zf zf za underlying297 (fun _=>sizeOf295 _) _)<|zn<|zw 12 qx (zr 295 31 30 (S3.out)) (.inr (.inr trivial))<|zE<| ?_
 simp only[zP,zI,Act.put,qPz,qPy,qP0];clear S3 Q3;go_wp2;clear hB;clear y0 y2 a0 O hl bq;go_loopw [5] (fun iv wr=>∃(i:Nat) (m:List (Nat×Nat)),i<=last/\iv=qV qj i/\yH (Qu wr R (qw ⟨g,0,qx⟩) c m)/\yH (kG m=last)/\yH (l.Perm (q::m))/\yH (Dn lq last i (at_ m))/\yH (Bx wr (B+1) q)/\yH (Bx wr B (0,0))/\yH (StT w wr R)) (fun iv _=>last-(intOf iv).toNat)
 case atStart=>exact⟨0,zEa l,za,rfl,ao,b4,HP,HD,ap,ay,T5⟩
 case round=>
  clear ao b4 HP HD ap ay T5;obtain⟨i,m,hi,rfl,hq,hm,hp,hd,hx,hb,hs⟩:=hrel;obtain⟨wo,rfl⟩:∃wo,wo=wr:=⟨_,rfl⟩;go_wp2;go_loopw [6,7] (fun fv kv wr=>∃(f k:Nat),fv=qV qj f/\kv=qV qj k/\f<=last/\2*i+1<=k/\k<=2*i+3/\yH (Seen m last i f k)/\yH (yI wo.heap.size wo wr)) (fun _ kv _=>2*i+3-(intOf kv).toNat)
  case atStart=>exact⟨i,2*i+1,rfl,by go_num,hi,za,za,zH ⟨za,za,.inl rfl,fun j h1 h2=>za⟩,zH (yN _ _)⟩
  case round=>
   obtain⟨f,k,rfl,rfl,hf,bz,c6,F,p⟩:=hrel;have b:=hq.out.below p.out rfl;have K:Bx wr (B+1) q:=(p.out.block _ (zAd hx.out)).trans hx.out;have d:Bx wr B (0,0):=(p.out.block _ (zAd hb.out)).trans hb.out;have bh:R<wo.heap.size:=hq.out.lt;by_cases hA:k<=2*i+2/\k<last
   ·obtain⟨h1,h2⟩:=hA;have Y:f<last:=by
     rcases F.out.who with h|⟨_,_,h,_⟩
     ·omega
     ·exact h
    have av:k<kG m:=by rw[hm.out];exact h2
    have o:f<kG m:=by rw[hm.out];exact Y
    obtain⟨pk,ag⟩:=zB (at_ m k);obtain⟨pf,s⟩:=zB (at_ m f);obtain⟨z,LK,LF,HC,PK,PF⟩:=yU b.drew (b.drew.ldx av ag) (b.drew.ldx o s) (zPg pk pf wr.drew) ag s;clear b K d av o ag s;cases hr:lq pk pf with
    |false=>
     rw[hr]at HC;have HR:=zH (F.out.no h1 (by rw[PK.out,PF.out];exact hr));clear hr;go_wp2;refine zS [] (fun _=>True) [0,1,2,4,0,16,32,64,0,384,512,0,2048,4096,8192,0,49152,65536,132104] 19<|zp [0,1,2,3,4,5,6,7,8,9,10,11,12,13,14,15,16,17]<|zk 57 (zP R 0)<|zk 58 (zP R 0)<|zk 59 (zP R 1)<|zt 60 QF (zl 296 59 (z.out.fn))<|zk 61 (zP R 0)<|zk 62 (zP R 0)<|zk 63 (zP R 0)<|zt 64 (qX (qw ⟨g,0,qx⟩) last c) (zl 297 63 (z.out.hd hm.out))<|zk 65 (zI k)<|zt 66 (qY (qw ⟨g,k*2,qx⟩)) (xG (t:=297) (x:=(.tmp 64)) (y:=(.tmp 65)) (g:=g) (n:=last) (c:=c) (k:=k) (sz:=2) rfl zf zf za underlying297 (fun _=>sizeOf295 _) _)<|zt 67 (tv pk) (zl 295 66 (LK.out))<|zk 68 (zP R 0)<|zk 69 (zP R 0)<|zk 70 (zP R 0)<|zt 71 (qX (qw ⟨g,0,qx⟩) last c) (zl 297 70 (z.out.hd hm.out))<|zk 72 (zI f)<|zt 73 (qY (qw ⟨g,f*2,qx⟩)) (xG (t:=297) (x:=(.tmp 71)) (y:=(.tmp 72)) (g:=g) (n:=last) (c:=c) (k:=f) (sz:=2) rfl zf zf za underlying297 (fun _=>sizeOf295 _) _)<|zt 74 (tv pf) (zl 295 73 (LF.out))<|zn<|zc 18 75 176 #[tv pk,tv pf] (qc yE) HC.out<| ?_
     refine fun w5 bp=>⟨.inr (.inr trivial),?_⟩;refine zE<| ?_
     simp only[zP,zI,Act.put,qPz,qPy,qP0];have H5:=zH (p.out.trans ((show yI wr.heap.size wr w5 from(yN _ _).drew.trans bp).mono p.out.size));clear bp HC LK LF z;go_wp2;go_roundw
     case rel=>exact⟨f,k+1,rfl,by go_num,hf,za,za,HR,H5⟩
     case measure=>simp only[intOf];omega
    |true=>
     rw[hr]at HC;have HR:=zH (F.out.yes h1 h2 (by rw[PK.out,PF.out];exact hr));clear hr;go_wp2;refine zS [] (fun _=>True) [0,1,2,4,0,16,32,64,0,384,512,0,2048,4096,8192,0,49152,65536,132104] 19<|zp [0,1,2,3,4,5,6,7,8,9,10,11,12,13,14,15,16,17]<|zk 57 (zP R 0)<|zk 58 (zP R 0)<|zk 59 (zP R 1)<|zt 60 QF (zl 296 59 (z.out.fn))<|zk 61 (zP R 0)<|zk 62 (zP R 0)<|zk 63 (zP R 0)<|zt 64 (qX (qw ⟨g,0,qx⟩) last c) (zl 297 63 (z.out.hd hm.out))<|zk 65 (zI k)<|zt 66 (qY (qw ⟨g,k*2,qx⟩)) (xG (t:=297) (x:=(.tmp 64)) (y:=(.tmp 65)) (g:=g) (n:=last) (c:=c) (k:=k) (sz:=2) rfl zf zf za underlying297 (fun _=>sizeOf295 _) _)<|zt 67 (tv pk) (zl 295 66 (LK.out))<|zk 68 (zP R 0)<|zk 69 (zP R 0)<|zk 70 (zP R 0)<|zt 71 (qX (qw ⟨g,0,qx⟩) last c) (zl 297 70 (z.out.hd hm.out))<|zk 72 (zI f)<|zt 73 (qY (qw ⟨g,f*2,qx⟩)) (xG (t:=297) (x:=(.tmp 71)) (y:=(.tmp 72)) (g:=g) (n:=last) (c:=c) (k:=f) (sz:=2) rfl zf zf za underlying297 (fun _=>sizeOf295 _) _)<|zt 74 (tv pf) (zl 295 73 (LF.out))<|zn<|zc 18 75 176 #[tv pk,tv pf] (qc yD) HC.out<| ?_
     refine fun w5 bp=>⟨.inr (.inr trivial),?_⟩;refine zE<| ?_
     simp only[zP,zI,Act.put,qPz,qPy,qP0];have H5:=zH (p.out.trans ((show yI wr.heap.size wr w5 from(yN _ _).drew.trans bp).mono p.out.size));clear bp HC LK LF z;go_wp2;go_roundw
     case rel=>exact⟨k,k+1,rfl,by go_num,za,za,za,HR,H5⟩
     case measure=>simp only[intOf];omega
   ·have H:∀j,0<j->j<last->(j-1)/2=i->lq (at_ m j) (at_ m f)=yE:=fun j h1 h2 h3=>F.out.all j za za h2;have V:=hs.out.trans (StT.of_below p.out (qP6 bh));have a5:¬((k:Int)<=2*(i:Int)+2/\k<last):=za
    by_cases ae:f=i
    ·subst ae;have HH:=yP (Hp lq (kG m) (at_ m)) (by rw[hm.out];exact hd.out.stop H);obtain⟨HQ,HS⟩:=yQ b V;obtain⟨x0,x1,x2,x3⟩:=zAf K;obtain⟨b0,b1,b2,b3⟩:=zAf d;have Z:=zH d;clear H V b K d hq hx hb hd;by_cases bk:(k:Int)<=2*(f:Int)+2
     ·have bc:¬k<last:=za
      clear a5 hA;go_wp2
      try simp only[Exit.inBlock,Exit.then]
      have G:Bx ((wr.setCell ⟨B,0,qx⟩ (qV qj (q.1:Int))).setCell ⟨B,1,qx⟩ (qV qj (q.2:Int))) B q:=by
       unfold Bx;rw[setBlock 1 (setBlock 0 Z.out)];rfl
      exact qP5 (v:=tv q) (zKf _ _ B q rfl G.ld) rfl ⟨rfl,_,_,m,(HQ.out.put za za _).put za za _,hp.out,HH.out,HS.out.put Z.out (by rw[am.out];exact qPq _) za _ _⟩
     ·clear a5 hA;go_wp2
      try simp only[Exit.inBlock,Exit.then]
      have G:Bx ((wr.setCell ⟨B,0,qx⟩ (qV qj (q.1:Int))).setCell ⟨B,1,qx⟩ (qV qj (q.2:Int))) B q:=by
       unfold Bx;rw[setBlock 1 (setBlock 0 Z.out)];rfl
      exact qP5 (v:=tv q) (zKf _ _ B q rfl G.ld) rfl ⟨rfl,_,_,m,(HQ.out.put za za _).put za za _,hp.out,HH.out,HS.out.put Z.out (by rw[am.out];exact qPq _) za _ _⟩
    ·have Y:f<last:=by
      rcases F.out.who with h|⟨_,_,h,_⟩
      ·omega
      ·exact h
     have hw:=F.out.who;have a2:0<f/\(f-1)/2=i/\lq (at_ m f) (at_ m i)=yD:=by
      rcases hw with h|⟨h1,h2,_,h4⟩
      ·exact absurd h ae
      ·exact⟨za,za,h4⟩
     have bn:i<last:=za
     have o:f<kG m:=by rw[hm.out];exact Y
     have M:i<kG m:=by rw[hm.out];exact bn
     obtain⟨pi,aa⟩:=zB (at_ m i);obtain⟨pf,s⟩:=zB (at_ m f);have li:=b.drew.ldx M aa;have lf:=b.drew.ldx o s;obtain⟨s1,q6,t6⟩:=b.drew.set i M pf;obtain⟨w6,N⟩:=zB (wr.drew.setCells g (i*2) (TL.cl pf));rw[N]at s1 q6 t6;obtain⟨s2,q7,t7⟩:=q6.set f (by rw[qR1];exact o) pi;obtain⟨w7,a3⟩:=zB (w6.setCells g (f*2) (TL.cl pi));rw[a3]at s2 q7 t7;have ax:Bx w7 (B+1) q:=by rw[<-a3,<-N];exact(xB _ _ _ _ _ za).trans ((xB _ _ _ _ _ za).trans K)
     have b5:Bx w7 B (0,0):=by rw[<-a3,<-N];exact(xB _ _ _ _ _ za).trans ((xB _ _ _ _ _ za).trans d)
     obtain⟨z,LI,LF,S1,S2,X7,B7,T7⟩:=yX b.drew li lf s1 s2 ax b5 ((V.trans (StT.of_below (w':=wr.drew) (yN _ _).drew (qP6 b.lt))).trans (t6.trans t7));have e:(m.set i pf).set f pi=sw m i f:=by unfold sw;rw[show m.getD f (0,0)=pf from s,show m.getD i (0,0)=pi from aa]
     rw[e]at q7;obtain⟨Q7,HD,HP⟩:=yR q7 (Dn.step (g:=at_ (sw m i f)) zF3 hd.out a2.1 Y a2.2.1 a2.2.2 H (qEy m i f M (qQ2 ae)) (qEw m i f o) (fun j h1 h2=>qEx m i f j h1 h2)) (hp.out.trans ((zTd m i f M o).symm.cons q));have HM:=yP (kG (sw m i f)=last) (by rw[zWo];exact hm.out);have bx:i<f:=za
     clear H V b K d hq hx hb hd hw a2 o M aa s li lf s1 q6 t6 N s2 q7 t7 a3 ax b5 e;by_cases bk:(k:Int)<=2*(i:Int)+2
     ·have bc:¬k<last:=za
      clear a5 hA;go_wp2;refine zS [] (fun _=>True) [0,1,2,4,0,0,32,64,128,0,0,1024,2048,4096,0,24576,32768,0,131072,262144,524288,0,3145728,4194304,9567519,26344735,67108863,134217727] 28<|zu 9 90 (zI f)<|zp [0,1,2,3,4,5,6,7,8,10,11,12,13,14,15,16,17,18,19,20,21,22,23,24]<|zk 81 (zP R 0)<|zk 82 (zP R 0)<|zk 83 (zP R 0)<|zt 84 (qX (qw ⟨g,0,qx⟩) last c) (zl 297 83 (z.out.hd hm.out))<|zk 85 (zI i)<|zk 86 (zP R 0)<|zk 87 (zP R 0)<|zk 88 (zP R 0)<|zt 89 (qX (qw ⟨g,0,qx⟩) last c) (zl 297 88 (z.out.hd hm.out))<|zk 91 (zP R 0)<|zk 92 (zP R 0)<|zk 93 (zP R 0)<|zt 94 (qX (qw ⟨g,0,qx⟩) last c) (zl 297 93 (z.out.hd hm.out))<|zk 95 (zI f)<|zt 96 (qY (qw ⟨g,f*2,qx⟩)) (xG (t:=297) (x:=(.tmp 94)) (y:=(.tmp 95)) (g:=g) (n:=last) (c:=c) (k:=f) (sz:=2) rfl zf zf za underlying297 (fun _=>sizeOf295 _) _)<|zt 97 (tv pf) (zl 295 96 (LF.out))<|zk 98 (zP R 0)<|zk 99 (zP R 0)<|zk 100 (zP R 0)<|zt 101 (qX (qw ⟨g,0,qx⟩) last c) (zl 297 100 (z.out.hd hm.out))<|zk 102 (zI i)<|zt 103 (qY (qw ⟨g,i*2,qx⟩)) (xG (t:=297) (x:=(.tmp 101)) (y:=(.tmp 102)) (g:=g) (n:=last) (c:=c) (k:=i) (sz:=2) rfl zf zf za underlying297 (fun _=>sizeOf295 _) _)<|zt 104 (tv pi) (zl 295 103 (LI.out))<|zt 105 (qY (qw ⟨g,i*2,qx⟩)) (xG (t:=297) (x:=(.tmp 84)) (y:=(.tmp 85)) (g:=g) (n:=last) (c:=c) (k:=i) (sz:=2) rfl zf zf za underlying297 (fun _=>sizeOf295 _) _)<|zn<|zw 25 qx (zr 295 105 97 (S1.out)) (.inr (.inr trivial))<|zp [26]<|zt 106 (qY (qw ⟨g,f*2,qx⟩)) (xG (t:=297) (x:=(.tmp 89)) (y:=(.tmp 90)) (g:=g) (n:=last) (c:=c) (k:=f) (sz:=2) rfl zf zf za underlying297 (fun _=>sizeOf295 _) _)<|zn<|zw 27 qx (zr 295 106 104 (S2.out)) (.inr (.inr trivial))<|zE<| ?_
      simp only[zP,zI,Act.put,qPz,qPy,qP0];clear S1 S2 LI LF z;go_wp2;go_roundw
      case rel=>exact⟨f,sw m i f,za,rfl,Q7,HM,HP,HD,X7,B7,T7⟩
      case measure=>simp only[intOf];omega
     ·clear a5 hA;go_wp2;refine zS [] (fun _=>True) [0,1,2,4,0,0,32,64,128,0,0,1024,2048,4096,0,24576,32768,0,131072,262144,524288,0,3145728,4194304,9567519,26344735,67108863,134217727] 28<|zu 9 90 (zI f)<|zp [0,1,2,3,4,5,6,7,8,10,11,12,13,14,15,16,17,18,19,20,21,22,23,24]<|zk 81 (zP R 0)<|zk 82 (zP R 0)<|zk 83 (zP R 0)<|zt 84 (qX (qw ⟨g,0,qx⟩) last c) (zl 297 83 (z.out.hd hm.out))<|zk 85 (zI i)<|zk 86 (zP R 0)<|zk 87 (zP R 0)<|zk 88 (zP R 0)<|zt 89 (qX (qw ⟨g,0,qx⟩) last c) (zl 297 88 (z.out.hd hm.out))<|zk 91 (zP R 0)<|zk 92 (zP R 0)<|zk 93 (zP R 0)<|zt 94 (qX (qw ⟨g,0,qx⟩) last c) (zl 297 93 (z.out.hd hm.out))<|zk 95 (zI f)<|zt 96 (qY (qw ⟨g,f*2,qx⟩)) (xG (t:=297) (x:=(.tmp 94)) (y:=(.tmp 95)) (g:=g) (n:=last) (c:=c) (k:=f) (sz:=2) rfl zf zf za underlying297 (fun _=>sizeOf295 _) _)<|zt 97 (tv pf) (zl 295 96 (LF.out))<|zk 98 (zP R 0)<|zk 99 (zP R 0)<|zk 100 (zP R 0)<|zt 101 (qX (qw ⟨g,0,qx⟩) last c) (zl 297 100 (z.out.hd hm.out))<|zk 102 (zI i)<|zt 103 (qY (qw ⟨g,i*2,qx⟩)) (xG (t:=297) (x:=(.tmp 101)) (y:=(.tmp 102)) (g:=g) (n:=last) (c:=c) (k:=i) (sz:=2) rfl zf zf za underlying297 (fun _=>sizeOf295 _) _)<|zt 104 (tv pi) (zl 295 103 (LI.out))<|zt 105 (qY (qw ⟨g,i*2,qx⟩)) (xG (t:=297) (x:=(.tmp 84)) (y:=(.tmp 85)) (g:=g) (n:=last) (c:=c) (k:=i) (sz:=2) rfl zf zf za underlying297 (fun _=>sizeOf295 _) _)<|zn<|zw 25 qx (zr 295 105 97 (S1.out)) (.inr (.inr trivial))<|zp [26]<|zt 106 (qY (qw ⟨g,f*2,qx⟩)) (xG (t:=297) (x:=(.tmp 89)) (y:=(.tmp 90)) (g:=g) (n:=last) (c:=c) (k:=f) (sz:=2) rfl zf zf za underlying297 (fun _=>sizeOf295 _) _)<|zn<|zw 27 qx (zr 295 106 104 (S2.out)) (.inr (.inr trivial))<|zE<| ?_
      simp only[zP,zI,Act.put,qPz,qPy,qP0];clear S1 S2 LI LF z;go_wp2;go_roundw
      case rel=>exact⟨f,sw m i f,za,rfl,Q7,HM,HP,HD,X7,B7,T7⟩
      case measure=>simp only[intOf];omega
end Wg
namespace Wg
open Bt
theorem zL4:∀(l:List Nat) (i x:Nat) (q:List Q),zAt i (l++[x]) q=ins ⟨x,i+kG l,.leaf (i+kG l)⟩ (zAt i l q)
 |[],i,x,q=>rfl
 |y::l,i,x,q=>by
  show zAt (i+1) (l++[x]) _=ins _ (zAt (i+1) l _);rw[zL4 l (i+1) x,qP3,show i+1+kG l=i+(kG l+1)by omega]
theorem zHp:∀(l:List Nat) (i:Nat) (q:List Q),(∀e∈q,e.t= .leaf e.x)->∀e∈zAt i l q,e.t= .leaf e.x
 |[],_,_,h,e,a=>h e a
 |x::l,i,q,h,e,a=>zHp l (i+1) (ins ⟨x,i,.leaf i⟩ q) (fun e a=>by
   rcases qP7.1 ((zBh _ q).mem_iff.1 a)with rfl|a
   ·rfl
   ·exact h e a) e a
theorem zMv:∀(k n:Nat) (q:List Q) (a b:Q) (r:List Q),build k n q=a::b::r->k<kG q->build (k+1) n q=ins ⟨a.w+b.w,n+k,.node a.t b.t⟩ r
 |0,n,q,a,b,r,h,_=>by
  have h:q=a::b::r:=h;subst h;rfl
 |k+1,n,q,a,b,r,h,hl=>by
  match q,h,hl with
  |x::y::s,h,hl=>
   show build (k+1) (n+1) (ins _ s)=_;have h:build k (n+1) (ins ⟨x.w+y.w,n,.node x.t y.t⟩ s)=a::b::r:=h;rw[zMv k (n+1) _ a b r h (by rw[(zBh _ s).length_eq];simp at hl⊢;omega),show n+1+k=n+(k+1)by omega]
  |[x],h,hl=>simp at hl
  |[],h,hl=>simp at hl
def q0 (ws:List Nat):List Q:=zAt 0 ws []
def qt (ws:List Nat) (t:Nat):List Q:=build t (kG ws) (q0 ws)
section
variable {ws:List Nat} (hpos:∀x∈ws,1<=x)
include hpos
theorem zQp:Inv (kG ws) ws.sum (kG ws) (q0 ws)/\kG (q0 ws)=kG ws:=by
 have h:=Inv.start ws 0 0 [] Inv.nil (fun e h=>by cases h) hpos;rw[qQc,qQc]at h;unfold q0;simpa using h
theorem zMa (t:Nat) (c:t<kG ws):Inv (kG ws) ws.sum (kG ws+t) (qt ws t)/\kG (qt ws t)=kG ws-t:=by
 obtain⟨a,b⟩:=zQp hpos;refine⟨a.build t (kG ws) _ za,?_⟩;unfold qt;rw[zO9 _ _ _ za,b]
theorem zW2 (t:Nat) (e:t+1<kG ws):∃a b r,qt ws t=a::b::r/\qt ws (t+1)=ins ⟨a.w+b.w,kG ws+t,.node a.t b.t⟩ r:=by
 obtain⟨d,c⟩:=zMa hpos t za
 match hq:qt ws t,c with
 |a::b::r,_=>exact⟨a,b,r,rfl,zMv t (kG ws) (q0 ws) a b r hq (by rw[(zQp hpos).2];omega)⟩
 |[a],c=>simp at c;omega
 |[],c=>simp at c;omega
end
structure Lp (ws:List Nat) (t:Nat) (U:Nat->Nat):Prop where
 good:Good U (qt ws t) (kG ws+t)
 ok:∀x,x<kG ws+t->x∉(qt ws t).map Q.x->x<U x/\U x<kG ws+t
theorem Lp.start {ws:List Nat} (d:∀x∈ws,1<=x) (g:1<=kG ws) (U:Nat->Nat):Lp ws 0 U:=by
 refine⟨Good.start (zHp ws 0 [] (fun e h=>by cases h)),fun x b f=> ?_⟩;exfalso;apply f;obtain⟨hi,i⟩:=zQp d;have a:∀e∈q0 ws,e.t= .leaf e.x:=zHp ws 0 [] (fun e h=>by cases h);have e:(q0 ws).flatMap (fun e=>e.t.names)=(q0 ws).map Q.x:=by
  have:∀l:List Q,(∀e∈l,e.t= .leaf e.x)->l.flatMap (fun e=>e.t.names)=l.map Q.x:=by
   intro l
   induction l with
   |nil=>intro _;rfl
   |cons e l ih=>
    intro h;rw[qSl,qQa,ih (fun x b=>h x (by simp[b])),h e zm];rfl
  exact this _ a
 have c:=hi.names;rw[e]at c;exact c.mem_iff.2 (qQm.2 b)
theorem Lp.step {ws:List Nat} {t:Nat} {U:Nat->Nat} (o:∀x∈ws,1<=x) (h:Lp ws t U) (G:t+1<kG ws) {a b:Q} {r:List Q} (u:qt ws t=a::b::r) (j:qt ws (t+1)=ins ⟨a.w+b.w,kG ws+t,.node a.t b.t⟩ r):
  Lp ws (t+1) (zAy (zAy U a.x (kG ws+t)) b.x (kG ws+t)):=by
 obtain⟨hi,F⟩:=zMa o t za;have m:=h.good;have c:=h.ok;rw[u]at hi m c;have hd:=hi.apart;have hne:a.x≠b.x:=by
  simp only[qQa,qSz,qP7,not_or]at hd;exact hd.1.1
 have k:zAy (zAy U a.x (kG ws+t)) b.x (kG ws+t) a.x=kG ws+t:=by rw[zBb _ _ _ _ hne,zCj]
 have l:zAy (zAy U a.x (kG ws+t)) b.x (kG ws+t) b.x=kG ws+t:=zCj _ _ _;have n:∀x,x≠a.x->x≠b.x->zAy (zAy U a.x (kG ws+t)) b.x (kG ws+t) x=U x:=fun x p q=>by rw[zBb _ _ _ _ q,zBb _ _ _ _ p]
 refine⟨?_,fun x H f=> ?_⟩
 ·rw[j];exact Good.join m hi.below hd k l n
 ·rw[j]at f;have s:∀y,y∈(ins ⟨a.w+b.w,kG ws+t,.node a.t b.t⟩ r).map Q.x↔y=kG ws+t\/y∈r.map Q.x:=by
   intro y;rw[((zBh _ r).map Q.x).mem_iff,qQa,qP7]
  rw[s]at f;have B:x≠kG ws+t:=fun e=>f (.inl e);have d:x∉r.map Q.x:=fun e=>f (.inr e);have w:=hi.below a zm;have z:=hi.below b zm;by_cases g:x=a.x
  ·subst g;rw[k];omega
  ·by_cases i:x=b.x
   ·subst i;rw[l];omega
   ·rw[n x g i];have:=c x za (by simp only[qQa,qP7,not_or];exact⟨g,i,d⟩);omega
theorem Lp.last {ws:List Nat} {U:Nat->Nat} (j:∀x∈ws,1<=x) (u:2<=kG ws) (h:Lp ws (kG ws-1) U):
  (∀x,x<2*kG ws-2->x<U x/\U x<2*kG ws-1)/\
  ∀D:Nat->Nat,D (2*kG ws-2)=0->(∀x,x<2*kG ws-2->D x=D (U x)+1)->∀i,i<kG ws->(lens ws)[i]? =qw (D i):=by
 obtain⟨t,s⟩:∃t,kG ws-1=t+1:=⟨kG ws-2,za⟩;obtain⟨a,b,r,w,d⟩:=zW2 j t za;obtain⟨hi,p⟩:=zMa j (kG ws-1) za;rw[<-s]at d;have q:r=[]:=by
  have:=qPs List.length d;rw[p,(zBh _ r).length_eq,qP3]at this;exact qQz za
 subst q;have k:qt ws (kG ws-1)=[⟨a.w+b.w,kG ws+t,.node a.t b.t⟩]:=d;have g:=h.good;have c:=h.ok;rw[k]at g c;have l:kG ws+(kG ws-1)=2*kG ws-1:=za
 have m:kG ws+t=2*kG ws-2:=za
 rw[l]at g c;rw[m]at g c;refine⟨fun x y=>c x za zq,fun D n o i hi=> ?_⟩;have e:tree ws= .node a.t b.t:=by
  unfold tree;have:build (kG ws-1) (kG ws) (zAt 0 ws [])=[⟨a.w+b.w,kG ws+t,.node a.t b.t⟩]:=k;rw[this]
 refine qDd za j (D:=D) ?_ i hi;rw[e];have f:Good U [⟨a.w+b.w,2*kG ws-2,.node a.t b.t⟩] (2*kG ws-2+1):=by rw[show 2*kG ws-2+1=2*kG ws-1 by omega];exact g
 exact qA1 f rfl n o
end Wg
end Go.Proofs.YtppnakkaljbmbaaGreatDoor
