/- Steps of a proof; no condition beyond what each states. -/
import Derived.Test.YtppnakkaljbmbaaGreatDoorZX00
import Derived.Test.YtppnakkaljbmbaaGreatDoorZX18
set_option linter.unusedVariables false
set_option linter.unusedSimpArgs false
set_option maxRecDepth 100000
set_option maxHeartbeats 8000000
open List renaming length->kG
open Go.Proofs.YtppnakkaljbmbaaGreatDoor.Kit renaming Src->yZ,Own->yg,zAg->yh
open Go.RowKit
open Go.Proofs.Tryz
open Go.Value renaming int->qV,string->qW,slice->qX,pointer->qY,tuple->qZ,bool->qc
open Go.IntKind renaming i64->qj
open Go.Obj renaming cells->qm,deferred->qo
open Go.Ending renaming returned->qp
open Option renaming some->qw,none->qx
open Go renaming World->qy,Value->qz,TypeId->yA,Addr->yB,Calls->yC,undef->yJ
open Bool renaming true->yD,false->yE
open Decidable renaming decide->yF
open Go.Proofs.Tryz renaming prog->yG
open Go.RowKit renaming Hid->yH,Below->yI
open List renaming replicate->yL
open Go.World renaming cell?->yM
open Go.RowKit.Below renaming refl->yN
open And renaming intro->yO
namespace Go.Proofs.YtppnakkaljbmbaaGreatDoor
namespace Sq
open Front Us St Zr Bt Ch
def Stg (p:ByteArray) (K g c most:Nat):Nat->qy->Prop
 |0,w=>∃q m d b,WK w K ⟨zAj p,zA8 p,some ⟨g,0,none⟩,kG (sy p)+1,c,most,q,m,d,b⟩/\yZ w (some ⟨g,0,none⟩) ((sym p).map ival)
 |1,w=>∃q m d b,WK w K ⟨zAj p,zA8 p,some ⟨g,0,none⟩,kG (sy p)+1,c,most,q,m,d,b⟩/\yZ w (some ⟨g,0,none⟩) ((sym p).map ival)
 |2,w=>∃b,WK w K ⟨zAj p,zA8 p,some ⟨g,0,none⟩,kG (sy p)+1,c,most,some ⟨g,0,none⟩,kG (sy p),c,b⟩/\yZ w (some ⟨g,0,none⟩) ((sym p).map ival)
 |3,w=>∃q d b,WK w K ⟨zAj p,zA8 p,some ⟨g,0,none⟩,kG (sy p)+1,c,most,q,p.size,d,b⟩/\yZ w q ((plc p).map ival)
 |4,w=>∃q m d,WK w K ⟨zAj p,zA8 p,some ⟨g,0,none⟩,kG (sy p)+1,c,most,q,m,d,lastT p⟩
 |_,w=>∃q m d,WK w K ⟨zAj p,zA8 p,some ⟨g,0,none⟩,kG (sy p)+1,c,most,q,m,d,p⟩
theorem Stg.below {p:ByteArray} {K g c most:Nat}:∀{i:Nat} {w w':qy},Stg p K g c most i w->yI w.heap.size w w'->Stg p K g c most i w'
 |0,_,_,⟨q,m,d,b,h,hs⟩,hb=>⟨q,m,d,b,h.below hb,hs.below hb⟩
 |1,_,_,⟨q,m,d,b,h,hs⟩,hb=>⟨q,m,d,b,h.below hb,hs.below hb⟩
 |2,_,_,⟨b,h,hs⟩,hb=>⟨b,h.below hb,hs.below hb⟩
 |3,_,_,⟨q,d,b,h,hs⟩,hb=>⟨q,d,b,h.below hb,hs.below hb⟩
 |4,_,_,⟨q,m,d,h⟩,hb=>⟨q,m,d,h.below hb⟩
 |_+5,_,_,⟨q,m,d,h⟩,hb=>⟨q,m,d,h.below hb⟩
def zM1 (f K:Nat) (R a:qy->Prop):Prop:=∀w,R w->yC yG f #[qY (qw ⟨K,0,qx⟩)] w fun e w'=>e=qp (qV qj 0)/\a w'/\Upd w w' K
theorem qGw {p:ByteArray} {K g c most:Nat}:∀{i:Nat} {w:qy},Stg p K g c most i w->K<w.heap.size
 |0,_,⟨q,m,d,b,h,hs⟩=>h.lt
 |1,_,⟨q,m,d,b,h,hs⟩=>h.lt
 |2,_,⟨b,h,hs⟩=>h.lt
 |3,_,⟨q,d,b,h,hs⟩=>h.lt
 |4,_,⟨q,m,d,h⟩=>h.lt
 |_+5,_,⟨q,m,d,h⟩=>h.lt
section
variable {p:ByteArray} {K g c most:Nat}
theorem step0 (f:0<p.size):zM1 338 K (Stg p K g c most 0) (Stg p K g c most 1):=fun w ⟨q,m,d,b,h,j⟩=>
 (zSp K _ w h (zMz p f) (by show(zAj p).size<=1000;have:=zFk p;omega) (zVu p)).mono fun e w' ⟨i,a⟩=>⟨i,⟨q,m,d,b,h.below a,j.below a⟩,Upd.of_below a (qP6 h.lt)⟩
theorem step1 (j:0<p.size) (r:p.size<=1000) (n:g≠K) (k:kG (sy p)+1<=c):zM1 340 K (Stg p K g c most 1) (Stg p K g c most 2):=fun w ⟨q,m,d,b,h,f⟩=>
 (zX5 K g (kG (sy p)) c (zAj p) (zA8 p) most q m d b (sy p) w h (by have:=zL1 p;omega) k rfl (by have:=zFk p;omega) (zPm p j) f).mono fun e w' ⟨l,o,i⟩=>⟨l,⟨b,o,i.src f (fun q a=>by injection a with a;subst a;exact n)⟩,i⟩
theorem step2 (t:0<p.size) (H:p.size<=1000) (M:g≠K) (L:kG (sy p)+1<=c) (r:c<=9223372036854775807) (x:p.size<=most) (s:most<=100000):zM1 341 K (Stg p K g c most 2) (Stg p K g c most 3):=fun w ⟨b,h,o⟩=>by
 have G:=zL1 p;have j:yZ w (qw ⟨g,0,qx⟩) ((sy p).map ival):=by
  have k:=o.take (kG (sy p));rw[<-qTx]at k;unfold sym at k;rw[List.take_left']at k
  ·exact k
  ·rfl
 have i:∀q,(qw ⟨g,0,qx⟩:Option yB)=qw q->q.block<w.heap.size:=fun q m=>by
  injection m with m
  subst m;obtain⟨b',off,l,f⟩:=o 0 (ival ((sym p)[0]'(by rw[zCv];omega))) (by rw[qP2,qPu (by rw[zCv];omega)];rfl);injection l with l
  rw[l];exact qQk f
 refine(zUt K _ (sy p) (plc p) w h rfl (by show(sy p).length<=2000;omega) j i (.inr ⟨by show(sy p).length<=c;omega,r,g,0,rfl⟩) (fun y F=>by have k:=zPm p t y F;have I:=zFk p;omega) (zP0 p) (by show(plc p).length<=most;rw[zDb];exact x) s).mono fun e w' ⟨a,d,u,n,z,B⟩=> ?_;rw[zDb]at n;exact⟨u,⟨a,d,b,n,z.src⟩,B⟩
theorem qG1 (a:0<p.size) (l:p.size<=1000):zM1 342 K (Stg p K g c most 3) (Stg p K g c most 4):=fun w ⟨q,d,b,h,j⟩=>
 (qAj K _ (plc p) (lastT p) w h a (zDb p) (by show p.size<=2000;omega) (by show(zAj p).size<=1000;have:=zFk p;omega) j (zK9 p a).1 (zK9 p a).2).mono fun e w' ⟨f,i,k⟩=>⟨f,⟨q,_,d,i⟩,k⟩
theorem qG0 (a:0<p.size) (j:p.size<=1000):zM1 344 K (Stg p K g c most 4) (Stg p K g c most 5):=fun w ⟨q,m,d,h⟩=>
 (zX2 K _ p w h (by show(lastT p).size<=100000;rw[zCp];omega) (by show zA8 p<(lastT p).size;rw[zCp];exact zDq p a) (zTa p a)).mono fun e w' ⟨b,f,i⟩=>⟨b,⟨q,m,d,f⟩,i⟩
end
abbrev fn (n:Nat):qz:= .func (.func n) #[] #[]
def zIp:Array qz:= #[fn 338,fn 339,fn 340,fn 339,fn 341,fn 339,fn 342,fn 343,fn 344,fn 343]
abbrev TS_:yA:=467
theorem qCl (p:ByteArray) (K S g c most:Nat) (w:qy) (I:0<p.size) (M:p.size<=1000) (R:g≠K) (O:kG (sy p)+1<=c) (V:c<=9223372036854775807) (hm:p.size<=most) (X:most<=100000) (h:Stg p K g c most 0 w) (t:w.heap[S]? =qw (qm zIp TS_)) (L:S≠K):
  yC yG 337 #[qY (qw ⟨K,0,qx⟩),qX (qw ⟨S,0,qx⟩) 5 5] w fun e w'=>e=qp .nilIface/\Stg p K g c most 5 w'/\Upd w w' K:=by
 obtain⟨C0,C1,C2,C3,C4,H,Y,Z⟩:=yX (step0 (K:=K) (g:=g) (c:=c) (most:=most) I) (step1 (most:=most) I M R O) (step2 I M R O V hm X) (qG1 (K:=K) (g:=g) (c:=c) (most:=most) I M) (qG0 (K:=K) (g:=g) (c:=c) (most:=most) I M) h t (Upd.refl w K);clear I M R O V hm X h t;go_enter func337,ntmps337;go_wp2;go_loopw [10] (fun iv wr=>∃i:Nat,i<=5/\iv=qV qj i/\yH (Stg p K g c most i wr)/\yH (wr.heap[S]? =qw (qm zIp TS_))/\yH (Upd w wr K)) (fun iv _=>5-(intOf iv).toNat)
 case atStart=>exact⟨0,za,rfl,H,Y,Z⟩
 case round=>
  clear H Y Z;obtain⟨i,hi,rfl,k,y,z⟩:=hrel;by_cases q:i=5
  ·subst q;rw[show((5:Nat):Int)=(5:Int)from rfl];go_wp2;go_ret;exact⟨rfl,k.out,z.out⟩
  ·obtain⟨P,x⟩:=zB wr.heap.size;have a0:K<P:=by rw[<-x];exact qGw k.out
   have a1:S<P:=by rw[<-x];exact zAd y.out
   have a:∀(j:Nat) (v:qz),zIp[j]? =qw v->wr.cell? ⟨S,j,qx⟩=qw v:=fun j v hv=>by simp[yM,y.out,hv]
   obtain rfl|rfl|rfl|rfl|rfl:i=0\/i=1\/i=2\/i=3\/i=4:=za
   ·rw[show((0:Nat):Int)=(0:Int)from rfl];have F:=a 0 (fn 338) rfl;have G:=a 1 (fn 339) rfl;obtain⟨W,s⟩:=zB (wr.alloc (qm #[.func (.func 338) #[] #[],.func (.func 339) #[] #[]] TS_));have b:yI wr.heap.size wr W:=by rw[<-s];exact(yN _ _).alloc (qPq _) _
    have r:=yP (W.drew.heap[P]? =qw (qm #[.func (.func 338) #[] #[],.func (.func 339) #[] #[]] TS_)) (by show W.heap[P]? =_;rw[<-s,<-x];exact zAh wr _);have u:=yP (Stg p K g c most 0 W.drew) ((k.out.below b).below (show yI W.heap.size W W.drew from(yN _ _).drew));obtain⟨f,d⟩:=yQ ((b.block S za).trans y.out) ((z.out.trans (Upd.of_below b za)).trans (Upd.drew W K));have m:P<W.heap.size:=by rw[<-s,zA];omega
    clear a k y z b;go_wp2;clear s x F G;refine zS [6] (fun B=>B.heap[P]? =qw (qm #[.func (.func 338) #[] #[],.func (.func 339) #[] #[]] TS_)) [0,1,0,4,0,24,34,127] 8<|zu 0 15 (zP P 1)<|zy 1 16 (fn 339) (fun w t=>zl 465 15 (yh (zAf t).2.1 zf zf)) r.out<|zp [2,3,4]<|zk 17 (zP P 0)<|zt 18 (fn 338) ((fun w t=>zl 464 17 (yh (zAf t).1 zf zf)) _ (r.out))<|zk 19 (zP K 0)<|zn<|zc 5 20 338 #[qY (qw ⟨K,0,qx⟩)] (qV qj 0) (C0.out _ u.out)<| ?_
    refine fun N q=>⟨.inr (.inr ((q.2.old P m za).trans r.out)),?_⟩;refine zd 6 21 339 #[qV qj 0] (qV qj 0) (zR1 _)<|zp [7]<|zk 7 (qV qj 0)<|zn<|zE<| ?_
    simp only[zP,zI,Act.put,qPz,qPy,qP0];obtain⟨o,n,l⟩:=yR q.1 ((q.2.old S (by show S<W.heap.size;omega) L).trans f.out) (d.out.trans q.2);clear q u f d r;go_wp2;go_roundw
    case rel=>exact⟨1,za,by go_num,o,n,l⟩
    case measure=>simp[intOf]
   ·rw[show((1:Nat):Int)=(1:Int)from rfl];have F:=a 2 (fn 340) rfl;have G:=a 3 (fn 339) rfl;obtain⟨W,s⟩:=zB (wr.alloc (qm #[.func (.func 340) #[] #[],.func (.func 339) #[] #[]] TS_));have b:yI wr.heap.size wr W:=by rw[<-s];exact(yN _ _).alloc (qPq _) _
    have r:=yP (W.drew.heap[P]? =qw (qm #[.func (.func 340) #[] #[],.func (.func 339) #[] #[]] TS_)) (by show W.heap[P]? =_;rw[<-s,<-x];exact zAh wr _);have u:=yP (Stg p K g c most 1 W.drew) ((k.out.below b).below (show yI W.heap.size W W.drew from(yN _ _).drew));obtain⟨f,d⟩:=yQ ((b.block S za).trans y.out) ((z.out.trans (Upd.of_below b za)).trans (Upd.drew W K));have m:P<W.heap.size:=by rw[<-s,zA];omega
    clear a k y z b;go_wp2;clear s x F G;refine zS [6] (fun B=>B.heap[P]? =qw (qm #[.func (.func 340) #[] #[],.func (.func 339) #[] #[]] TS_)) [0,1,0,4,0,24,34,127] 8<|zu 0 15 (zP P 1)<|zy 1 16 (fn 339) (fun w t=>zl 465 15 (yh (zAf t).2.1 zf zf)) r.out<|zp [2,3,4]<|zk 17 (zP P 0)<|zt 18 (fn 340) ((fun w t=>zl 464 17 (yh (zAf t).1 zf zf)) _ (r.out))<|zk 19 (zP K 0)<|zn<|zc 5 20 340 #[qY (qw ⟨K,0,qx⟩)] (qV qj 0) (C1.out _ u.out)<| ?_
    refine fun N q=>⟨.inr (.inr ((q.2.old P m za).trans r.out)),?_⟩;refine zd 6 21 339 #[qV qj 0] (qV qj 0) (zR1 _)<|zp [7]<|zk 7 (qV qj 0)<|zn<|zE<| ?_
    simp only[zP,zI,Act.put,qPz,qPy,qP0];obtain⟨o,n,l⟩:=yR q.1 ((q.2.old S (by show S<W.heap.size;omega) L).trans f.out) (d.out.trans q.2);clear q u f d r;go_wp2;go_roundw
    case rel=>exact⟨2,za,by go_num,o,n,l⟩
    case measure=>simp[intOf]
   ·rw[show((2:Nat):Int)=(2:Int)from rfl];have F:=a 4 (fn 341) rfl;have G:=a 5 (fn 339) rfl;obtain⟨W,s⟩:=zB (wr.alloc (qm #[.func (.func 341) #[] #[],.func (.func 339) #[] #[]] TS_));have b:yI wr.heap.size wr W:=by rw[<-s];exact(yN _ _).alloc (qPq _) _
    have r:=yP (W.drew.heap[P]? =qw (qm #[.func (.func 341) #[] #[],.func (.func 339) #[] #[]] TS_)) (by show W.heap[P]? =_;rw[<-s,<-x];exact zAh wr _);have u:=yP (Stg p K g c most 2 W.drew) ((k.out.below b).below (show yI W.heap.size W W.drew from(yN _ _).drew));obtain⟨f,d⟩:=yQ ((b.block S za).trans y.out) ((z.out.trans (Upd.of_below b za)).trans (Upd.drew W K));have m:P<W.heap.size:=by rw[<-s,zA];omega
    clear a k y z b;go_wp2;clear s x F G;refine zS [6] (fun B=>B.heap[P]? =qw (qm #[.func (.func 341) #[] #[],.func (.func 339) #[] #[]] TS_)) [0,1,0,4,0,24,34,127] 8<|zu 0 15 (zP P 1)<|zy 1 16 (fn 339) (fun w t=>zl 465 15 (yh (zAf t).2.1 zf zf)) r.out<|zp [2,3,4]<|zk 17 (zP P 0)<|zt 18 (fn 341) ((fun w t=>zl 464 17 (yh (zAf t).1 zf zf)) _ (r.out))<|zk 19 (zP K 0)<|zn<|zc 5 20 341 #[qY (qw ⟨K,0,qx⟩)] (qV qj 0) (C2.out _ u.out)<| ?_
    refine fun N q=>⟨.inr (.inr ((q.2.old P m za).trans r.out)),?_⟩;refine zd 6 21 339 #[qV qj 0] (qV qj 0) (zR1 _)<|zp [7]<|zk 7 (qV qj 0)<|zn<|zE<| ?_
    simp only[zP,zI,Act.put,qPz,qPy,qP0];obtain⟨o,n,l⟩:=yR q.1 ((q.2.old S (by show S<W.heap.size;omega) L).trans f.out) (d.out.trans q.2);clear q u f d r;go_wp2;go_roundw
    case rel=>exact⟨3,za,by go_num,o,n,l⟩
    case measure=>simp[intOf]
   ·rw[show((3:Nat):Int)=(3:Int)from rfl];have F:=a 6 (fn 342) rfl;have G:=a 7 (fn 343) rfl;obtain⟨W,s⟩:=zB (wr.alloc (qm #[.func (.func 342) #[] #[],.func (.func 343) #[] #[]] TS_));have b:yI wr.heap.size wr W:=by rw[<-s];exact(yN _ _).alloc (qPq _) _
    have r:=yP (W.drew.heap[P]? =qw (qm #[.func (.func 342) #[] #[],.func (.func 343) #[] #[]] TS_)) (by show W.heap[P]? =_;rw[<-s,<-x];exact zAh wr _);have u:=yP (Stg p K g c most 3 W.drew) ((k.out.below b).below (show yI W.heap.size W W.drew from(yN _ _).drew));obtain⟨f,d⟩:=yQ ((b.block S za).trans y.out) ((z.out.trans (Upd.of_below b za)).trans (Upd.drew W K));have m:P<W.heap.size:=by rw[<-s,zA];omega
    clear a k y z b;go_wp2;clear s x F G;refine zS [6] (fun B=>B.heap[P]? =qw (qm #[.func (.func 342) #[] #[],.func (.func 343) #[] #[]] TS_)) [0,1,0,4,0,24,34,127] 8<|zu 0 15 (zP P 1)<|zy 1 16 (fn 343) (fun w t=>zl 465 15 (yh (zAf t).2.1 zf zf)) r.out<|zp [2,3,4]<|zk 17 (zP P 0)<|zt 18 (fn 342) ((fun w t=>zl 464 17 (yh (zAf t).1 zf zf)) _ (r.out))<|zk 19 (zP K 0)<|zn<|zc 5 20 342 #[qY (qw ⟨K,0,qx⟩)] (qV qj 0) (C3.out _ u.out)<| ?_
    refine fun N q=>⟨.inr (.inr ((q.2.old P m za).trans r.out)),?_⟩;refine zd 6 21 343 #[qV qj 0] (qV qj 0) (zRg _)<|zp [7]<|zk 7 (qV qj 0)<|zn<|zE<| ?_
    simp only[zP,zI,Act.put,qPz,qPy,qP0];obtain⟨o,n,l⟩:=yR q.1 ((q.2.old S (by show S<W.heap.size;omega) L).trans f.out) (d.out.trans q.2);clear q u f d r;go_wp2;go_roundw
    case rel=>exact⟨4,za,by go_num,o,n,l⟩
    case measure=>simp[intOf]
   ·rw[show((4:Nat):Int)=(4:Int)from rfl];have F:=a 8 (fn 344) rfl;have G:=a 9 (fn 343) rfl;obtain⟨W,s⟩:=zB (wr.alloc (qm #[.func (.func 344) #[] #[],.func (.func 343) #[] #[]] TS_));have b:yI wr.heap.size wr W:=by rw[<-s];exact(yN _ _).alloc (qPq _) _
    have r:=yP (W.drew.heap[P]? =qw (qm #[.func (.func 344) #[] #[],.func (.func 343) #[] #[]] TS_)) (by show W.heap[P]? =_;rw[<-s,<-x];exact zAh wr _);have u:=yP (Stg p K g c most 4 W.drew) ((k.out.below b).below (show yI W.heap.size W W.drew from(yN _ _).drew));obtain⟨f,d⟩:=yQ ((b.block S za).trans y.out) ((z.out.trans (Upd.of_below b za)).trans (Upd.drew W K));have m:P<W.heap.size:=by rw[<-s,zA];omega
    clear a k y z b;go_wp2;clear s x F G;refine zS [6] (fun B=>B.heap[P]? =qw (qm #[.func (.func 344) #[] #[],.func (.func 343) #[] #[]] TS_)) [0,1,0,4,0,24,34,127] 8<|zu 0 15 (zP P 1)<|zy 1 16 (fn 343) (fun w t=>zl 465 15 (yh (zAf t).2.1 zf zf)) r.out<|zp [2,3,4]<|zk 17 (zP P 0)<|zt 18 (fn 344) ((fun w t=>zl 464 17 (yh (zAf t).1 zf zf)) _ (r.out))<|zk 19 (zP K 0)<|zn<|zc 5 20 344 #[qY (qw ⟨K,0,qx⟩)] (qV qj 0) (C4.out _ u.out)<| ?_
    refine fun N q=>⟨.inr (.inr ((q.2.old P m za).trans r.out)),?_⟩;refine zd 6 21 343 #[qV qj 0] (qV qj 0) (zRg _)<|zp [7]<|zk 7 (qV qj 0)<|zn<|zE<| ?_
    simp only[zP,zI,Act.put,qPz,qPy,qP0];obtain⟨o,n,l⟩:=yR q.1 ((q.2.old S (by show S<W.heap.size;omega) L).trans f.out) (d.out.trans q.2);clear q u f d r;go_wp2;go_roundw
    case rel=>exact⟨5,za,by go_num,o,n,l⟩
    case measure=>simp[intOf]
end Sq
namespace Sq
open Front Us Tn St Zr Bt Ch
theorem qGk (v:qz) (w:qy):yC yG 345 #[.nilIface,v] w fun e w'=>e=qp (qc yE)/\w'=w:=by
 go_enter func345,ntmps345;go_wp2;go_ret;exact⟨rfl,rfl⟩
theorem zSl (p:ByteArray) (g c most:Nat) (w:qy) (X:0<p.size) (Y:p.size<=1000) (Z:kG (sy p)+1<=c) (V:c<=9223372036854775807) (hm:p.size<=most) (W:most<=100000) (R:yZ w (qw ⟨g,0,qx⟩) ((sym p).map ival)):
  yC yG 319 #[qv (zAj p) (zA8 p) (qw ⟨g,0,qx⟩) (kG (sy p)+1) c,qV qj (most:Int)] w fun e w'=>e=qp (qZ #[qW p,qV qj 0])/\yI w.heap.size w w':=by
 have F:g<w.heap.size:=by
  obtain⟨b',off,y,s⟩:=R 0 (ival ((sym p)[0]'(by rw[zCv];omega))) (by rw[qP2,qPu (by rw[zCv];omega)];rfl);injection y with y
  injection y with h2 _ _
  subst h2;exact qQk s
 obtain⟨B,K⟩:=zB w.heap.size;obtain⟨A,I⟩:=zB (zAj p);obtain⟨O,L⟩:=zB (zA8 p);obtain⟨n,M⟩:=zB (kG (sy p)+1);obtain⟨N,h⟩:=zB (w.alloc (qm #[qW A,qV qj (O:Int),qX (qw ⟨g,0,qx⟩) n c] TQ));obtain⟨G,a⟩:=zB (N.alloc (qm #[qW A,qV qj (O:Int),qX (qw ⟨g,0,qx⟩) n c,qV qj (most:Int),qX qx 0 0,qW ⟨#[]⟩] TK));obtain⟨H,f⟩:=zB (G.alloc (qm #[qV qj 0] 461));obtain⟨z,b⟩:=zB (H.alloc (qm zIp TS_));have S:N.heap.size=B+1:=by rw[<-h,zA,K]
 have z2:G.heap.size=B+2:=by rw[<-a,zA,S]
 have z3:H.heap.size=B+3:=by rw[<-f,zA,z2]
 have y:yI B w z:=by
  rw[<-b,<-f,<-a,<-h,<-K];exact((((yN _ _).alloc (qPq _) _).alloc (by rw[zA];omega) _).alloc (by rw[zA,zA];omega) _).alloc (by rw[zA,zA,zA];omega) _
 have k2:G.heap[B+1]? =qw (qm #[qW A,qV qj (O:Int),qX (qw ⟨g,0,qx⟩) n c,qV qj (most:Int),qX qx 0 0,qW ⟨#[]⟩] TK):=by rw[<-a,<-S];exact zAh N _
 have k4:z.heap[B+1]? =qw (qm #[qW A,qV qj (O:Int),qX (qw ⟨g,0,qx⟩) n c,qV qj (most:Int),qX qx 0 0,qW ⟨#[]⟩] TK):=by
  rw[<-b,Lib.alloc_old H _ _ za,<-f,Lib.alloc_old G _ _ za];exact k2
 have s4:z.heap[B+3]? =qw (qm zIp TS_):=by rw[<-b,<-z3];exact zAh H _
 obtain⟨i,HB,u,k,o,j,l⟩:=yV (qCl p (B+1) (B+3) g c most z X Y za Z V hm W ⟨qx,0,0,⟨#[]⟩,by rw[I,L,M];exact k4,R.below (by rw[K];exact y)⟩ s4 za) y K h a f b;rw[I,L,M];unfold qv;have HO:=zH (yO I (yO L M));clear R y I L M h a f b S z2 z3 k2 k4 s4 X Y Z V hm W F;go_enter func319,ntmps319;go_wp2_with fail;rw[show B+1+1+1=B+3 from rfl];rw[show(((w.alloc (qm #[qW A,qV qj (O:Int),qX (qw ⟨g,0,qx⟩) n c] TQ)).alloc (qm #[qW A,qV qj (O:Int),qX (qw ⟨g,0,qx⟩) n c,qV qj (most:Int),qX qx 0 0,qW ⟨#[]⟩] TK)).alloc (qm #[qV qj 0] 461)).alloc (qm #[.func (.func 338) #[] #[],.func (.func 339) #[] #[],.func (.func 340) #[] #[],.func (.func 339) #[] #[],.func (.func 341) #[] #[],.func (.func 339) #[] #[],.func (.func 342) #[] #[],.func (.func 343) #[] #[],.func (.func 344) #[] #[],.func (.func 343) #[] #[]] TS_)=z from by rw[k.out,o.out,j.out];exact l.out];(with_reducible refine i.out.mono ?_);rintro e w5 ⟨rfl,r,hu⟩;obtain⟨q,m,d,P⟩:=r;obtain⟨t,HK⟩:=yQ (HB.out.trans (hu.below.mono za)) P;have x5:=P.c5;simp only at x5;have x:=zH (fun(v:qz) (w:qy)=>qGk v w);clear P hu i HB k o j l HO;go_wp2_with fail;(with_reducible refine(x.out _ _).mono ?_);rintro e w6 ⟨rfl,rfl⟩;go_wp2;go_ret2;exact⟨rfl,by rw[u.out];exact t.out⟩
end Sq
namespace Sl
open Front Bt Zr
def kOf (b:Bool) (x:Nat):Nat:=if x=b.toNat then 0 else 1
theorem qE8 (b:Bool) (x:Nat):zC8 b x=yL (kOf b x) yD++[yE]:=by unfold zC8 kOf;split<;>rfl
theorem qFs (b:Bool) (x:Nat):kOf b x<=1:=by unfold kOf;split<;>omega
theorem zVa (R:Nat) (b:Bool) (x:Nat) (g:x<=1) (w:qy) (h:Pl w R b):
  yC yG 94 #[qY (qw ⟨R,0,qx⟩),qV qj (kOf b x:Int)] w fun e w'=>e=qp (qV qj (x:Int))/\Pl w' R (x==1)/\Ch R w w':=by
 by_cases a:x=b.toNat
 ·have d:kOf b x=0:=by unfold kOf;rw[qPr a]
  have f:(x==1)=b:=by rw[a];cases b<;>rfl
  rw[d,f,a];exact zMq R b w h
 ·have d:kOf b x=1:=by unfold kOf;rw[qPt a]
  have c:x=(!b).toNat:=by cases b<;>simp at a⊢<;>omega
  have f:(x==1)= !b:=by rw[c];cases b<;>rfl
  rw[d,f,c];exact zMp R b w h
theorem qGi {s:ByteArray} {q k:Nat} (h:At s q (yL k yD++[yE])) (u:Nat) (g:u<=k):q+u+1<=8*s.size/\val (take s (q+u) 1)=(yF (u<k)).toNat:=by
 have c:=h.1;simp at c;refine⟨za,?_⟩;have d:=h.2;have a:=zKy s q (kG (yL k yD++[yE])) u zq;rw[d]at a;have e:take s (q+u) 1=[zBm s (q+u)]:=by simp[take]
 rw[e];have f:zBm s (q+u)=yF (u<k):=by
  rcases qP8 u k with b|b
  ·rw[List.getElem?_append_left (by simpa using b),List.getElem?_replicate,if_pos b]at a;rw[qP9 b];exact(qPv a).symm
  ·obtain rfl:u=k:=za
   rw[qS4 zm]at a;simp at a;rw[qP1 za];exact a
 rw[f];simp[val]
theorem zOa (s:ByteArray) (at_:Nat) (l:List Nat) (n:Nat) (w:qy) (hn:kG l=n) (a5:n<=10000) (hs:s.size<=100000000) (hl:∀x∈l,x<=1) (ha:At s at_ (zAz yE l)):
  yC yG 34 #[qW s,qV qj (at_:Int),qV qj (n:Int),qV qj 2] w fun e w'=>∃a' c',e=qp (qZ #[qX a' n c',qV qj ((at_+kG (zAz yE l):Nat):Int),qV qj 0])/\yg w' w.heap.size 3 a' n c' (l.map ival)/\yI w.heap.size w w':=by
 obtain⟨B,hB⟩:=zB w.heap.size;obtain⟨HF,HO⟩:=yQ (zC9 w) (zTq w);rw[hB]at HO;obtain⟨HL,HN⟩:=yQ hl hn;obtain⟨J,y⟩:=zB (at_+kG (zAz yE l));rw[y];obtain⟨HA,HJ⟩:=yQ ha y;have a4:at_<=8*s.size:=by have:=ha.1;omega
 have h1:decide ((at_:Int)<0)=yE:=qP1 za;have h2:decide ((n:Int)<0)=yE:=qP1 za;have h3:decide ((1048576:Int)<(n:Int))=yE:=qP1 za;clear ha hl hn y;rw[hB];go_enter func34,ntmps34;go_wp2_with fail;(with_reducible refine HF.out.mono ?_);rintro e w2 ⟨rfl,rfl⟩;go_wp2_with fail;(with_reducible refine HO.out.mono ?_);rintro e w3 ⟨rfl,t,P⟩;obtain⟨P3,H⟩:=yQ t P;have I:B<w3.heap.size:=zAd t;clear t P HF HO h1 h2 h3;go_wp2;go_loopw [1,8,33] (fun av v i wr=>∃(j q:Nat) (b:Bool) (p:Option yB) (c:Nat),j<=n/\i=qV qj j/\av=qV qj q/\v=qX p j c/\yH (At s q (zAz b (l.drop j)))/\yH (q+kG (zAz b (l.drop j))=J)/\yH (Pl wr B b)/\yH (yg wr (B+1) 3 p j c ((l.take j).map ival))/\yH (yI B w2 wr)/\B<wr.heap.size) (fun _ _ i _=>n-(intOf i).toNat)
 case atStart=>exact⟨0,at_,yE,qx,0,za,rfl,rfl,rfl,by rw[qR3];exact HA,by rw[qR3];exact HJ,P3,zH (Kit.Own.start _ _ _),H,I⟩
 case round=>
  clear HA HJ P3 H I;obtain⟨j,q,b,p,c,hj,rfl,rfl,rfl,hA,y,hp,d,hb,hz⟩:=hrel;by_cases X:j<n
  ·have o:j<kG l:=by rw[HN.out];exact X
   obtain⟨x,hx⟩:=zB (l[j]);have a0:x<=1:=by rw[<-hx];exact HL.out _ (qQ o)
   have hd:=zOd l j b o;rw[hx]at hd;have m:=hA.out;rw[hd]at m;obtain⟨a1,a2⟩:=At.app.1 m;have K:=y.out;rw[hd,qPx]at K;have a:l.take (j+1)=l.take j++[x]:=by rw[qQo o,hx]
   obtain⟨S,A2⟩:=yQ a a2;have J2:=yP (q+kG (zC8 b x)+kG (zAz (x==1) (l.drop (j+1)))=J) (by omega);clear hd m K a hx hA y a2;rw[qE8]at a1 A2 J2;have Z:=qFs b x;have L:=zH (zVa B b x a0);obtain⟨k,hk⟩:=zB (kOf b x);rw[hk]at a1 A2 J2 Z L;rw[qPx,qTz,show[yE].length=1 from rfl]at A2 J2;have Y:=zH (qGi a1);clear a1 hk;go_wp2;go_loopw [1,8,12] (fun av v8 ov w=>∃(u:Nat),v8=qX p j c/\u<=k/\av=qV qj ((q:Int)+(u:Int))/\ov=qV qj u/\w=wr) (fun _ _ ov _=>k-(intOf ov).toNat)
   case atStart=>exact⟨0,rfl,za,zm,rfl,rfl⟩
   case round=>
    obtain⟨u,rfl,hu,rfl,rfl,rfl⟩:=hrel;obtain⟨g1,g2⟩:=Y.out u hu;have z:=zH (zB7 s (q+u) 1 za g1 za wr);rw[g2,show((1:Nat):Int)=1 from rfl,qTq]at z;clear g2;by_cases W:u<k
    ·rw[qP9 W,show((true.toNat:Nat):Int)=1 from rfl]at z;obtain⟨x0,x1,fz,x6⟩:=zQs hp.out;have hne:((u:Int)+1==2)=yE:=zq
     clear fz x0 x1;go_wp2_with fail;(with_reducible refine z.out.mono ?_);rintro e w4 ⟨rfl,rfl⟩;go_wp2;go_roundw
     case rel=>exact⟨u+1,rfl,za,by push_cast;rw[Int.add_assoc],by go_num,trivial⟩
     case measure=>simp only[intOf];omega
    ·obtain rfl:u=k:=za
     rw[qP1 za,show((false.toNat:Nat):Int)=0 from rfl]at z;go_wp2_with fail;(with_reducible refine z.out.mono ?_);rintro e w4 ⟨rfl,rfl⟩;clear z;have R:=zH (L.out wr hp.out);go_wp2_with fail;(with_reducible refine R.out.mono ?_);rintro e w5 ⟨rfl,G,g⟩;have a6:=g.below.size;obtain⟨P5,B5⟩:=yQ G (hb.out.trans (g.below.mono (qPq _)));have r:yg w5 (B+1) 3 p j c ((l.take j).map ival):=zJs d.out (fun k h1 _=>g.old k za);obtain⟨p3,c3,w6,a3,F,M⟩:=Kit.Own.app (ty:=23) (w:=w5.alloc (qm #[qV qj (x:Int)] 3)) zNn (r.alloc _) (qw ⟨w5.heap.size,0,qx⟩) 1 1 [ival x] (Kit.zAs w5 _ 3) rfl (fun h=>by cases h) (zDr [x]) (by unfold maxLen;omega) za zq;rw[show(l.take j).map ival++[ival x]=(l.take (j+1)).map ival by rw[S.out,qQd];rfl]at F;have O:=r.block;have f:yI (B+1) w5 w6:=((yN _ _).alloc za _).trans ((yN _ _).grown M zq (fun k hk=>O k hk));have P6:=yP (Pl w6 B (x==1)) ((f.block B za).trans G);have B6:=zH (B5.out.trans (f.mono za));have a7:=f.size;have O6:=zH F;clear G g r F M O f P5 B5;go_wp2_with (at_builtin;refine Kit.zAr rfl (.tmp 56) (.tmp 62) 23 rfl rfl rfl a3 ?_);go_roundw
     case rel=>exact⟨j+1,q+(u+1),(x==1),p3,c3,za,by go_num,by push_cast;rw[Int.add_assoc],rfl,A2,J2,P6,O6,B6,za⟩
     case measure=>simp only[intOf];omega
  ·obtain rfl:j=n:=za
   have N:J=q:=by
    have:=y.out;rw[qSw (by rw[HN.out];omega),zAz]at this;simpa using this.symm
   have a:l.take j=l:=qQg (by rw[HN.out];omega);rw[a]at d;have V:=zH N;clear N a;go_wp2
   try simp only[Exit.inBlock,Exit.then]
   refine qP5 (v:=qZ #[qX p j c,qV qj (q:Int),qV qj 0]) (by simp[results,f34,go_sem]) rfl ⟨p,c,by rw[V.out],d.out.base za,hb.out⟩
end Sl
namespace Hf
open Go.Shelf Front Bt Zr Rg
variable {l m B a:Nat} {pre:List Nat} {w0 W:qy} {s:ByteArray} {o:Obj}
attribute [local go_sem] Oper.semAt_some
theorem zXh (l:List Nat) (n m:Nat):(lv l n m).Pairwise (·<·):=by
 unfold lv;exact List.Pairwise.filter _ (List.pairwise_lt_range' (step:=1) za)
theorem qFq (l:List Nat) (k:Nat) (b:1<=k) (c:k<=20) (h:0<cnt l k):k∈lv l 1 20:=by
 unfold lv;rw[qT0,List.mem_range'];exact⟨⟨k-1,za,za⟩,by simpa using h⟩
theorem qC9 {l:List Nat} {x:Nat} (e:pre++[x]<+:lv l 1 20) (b:m∈lv l 1 20) (d:∀k∈pre,k<m):x<=m:=by
 obtain⟨r,f⟩:=e;have c:=zXh l 1 20;rw[<-f]at c b;rcases qSi.1 b with h|h
 ·rcases qSi.1 h with h|h
  ·exact absurd (d _ h) za
  ·rw[qRm]at h;omega
 ·have:=(List.pairwise_append.1 c).2.2 x zm m h;omega
structure TI (B:Nat) (w0:qy) (s:ByteArray) (at_ m:Nat) (pre:List Nat) (W:qy):Prop where
 b0:Boxed W B 9 (qW s)
 b1:Boxed W (B+1) 3 (qV qj (at_:Int))
 b2:Boxed W (B+2) 3 (qV qj 0)
 b3:Boxed W (B+3) 3 (qV qj 0)
 b4:Boxed W (B+4) 26 (qV qj 0)
 below:yI B w0 W
 less:∀k∈pre,k<m
 size:B+5<=W.heap.size
theorem TI.keep {W':qy} (h:TI B w0 s a m pre W) (b:yI W.heap.size W W'):TI B w0 s a m pre W':=by
 have c:=h.size;exact⟨zAp h.b0 (b.block _ za),zAp h.b1 (b.block _ za),zAp h.b2 (b.block _ za),zAp h.b3 (b.block _ za),zAp h.b4 (b.block _ za),h.below.trans (b.mono za),h.less,qP4 c b.size⟩
theorem TI.put (h:TI B w0 s a m pre W) (b:Obj) (c:W.heap[l]? =qw o) (d:o.isCells=yE) (e:B<=l) (f:B<=W.heap.size):TI B w0 s a m pre (W.putObj l b):=
 ⟨zA6 h.b0 b c d,zA6 h.b1 b c d,zA6 h.b2 b c d,zA6 h.b3 b c d,zA6 h.b4 b c d,zAu b h.below c e f,h.less,by rw[putObj_size];exact h.size⟩
structure TX (B:Nat) (w0:qy) (q j:Nat) (W:qy):Prop where
 b2:Boxed W (B+2) 3 (qV qj (q:Int))
 b3:Boxed W (B+3) 3 (qV qj (j:Int))
 b4:Boxed W (B+4) 26 (qV qj 0)
 below:yI B w0 W
theorem TX.put {q j:Nat} (h:TX B w0 q j W) (b:Obj) (c:W.heap[l]? =qw o) (d:o.isCells=yE) (e:B<=l) (f:B<=W.heap.size):TX B w0 q j (W.putObj l b):=
 ⟨zA6 h.b2 b c d,zA6 h.b3 b c d,zA6 h.b4 b c d,zAu b h.below c e f⟩
def TJ (B X:Nat) (w0:qy) (l:List Nat) (n:Nat) (a:Option yB) (c:Nat) (s:ByteArray) (at_ m:Nat) (pre:List Nat) (k:Nat) (e:Array qz) (b:Act) (W:qy):Prop:=∃(g:Nat) (c' L:Nat) (d:Array qz) (f:Nat×Nat),
 e= #[.agg #[qV qj (k:Int),qV .u64 (first l k:Int),qX (qw ⟨g,0,qx⟩) (cnt l k) c']]/\b={tmps:= #[qX a n c,qW s,qV qj (at_:Int),yJ,qY (qw ⟨B,0,qx⟩),qY (qw ⟨B+1,0,qx⟩),qY (qw ⟨B+2,0,qx⟩),qY (qw ⟨B+3,0,qx⟩),qY (qw ⟨B+4,0,qx⟩),qV qj 0,qY (qw ⟨L,0,qx⟩),yJ,yJ,qX a n c,qV qj 0,qV qj 0,qc yE,yJ,qX a n c,.func (.func 161) #[] #[qY (qw ⟨X,0,qx⟩)],.agg #[qV qj (k:Int),qV .u64 (first l k:Int),qX (qw ⟨g,0,qx⟩) (cnt l k) c'],yJ,yJ,yJ,yJ,yJ,yJ,yJ,yJ,yJ,yJ,yJ,yJ,yJ,yJ,yJ,yJ,yJ,yJ,yJ,yJ,yJ,yJ,yJ,yJ,yJ,yJ,yJ,yJ,yJ,yJ],defers:=[]}/\
 W.heap[L]? =qw (qm #[qV qj (k:Int),qV .u64 (first l k:Int),qX (qw ⟨g,0,qx⟩) (cnt l k) c'] 199)/\TI B w0 s at_ m pre W/\yZ W (qw ⟨g,0,qx⟩) ((whose l k).map ival)/\W.heap[g]? =qw (qm d 3 f)/\1<=k/\k<=20/\0<cnt l k
theorem zO2 (l:List Nat) (a:Option yB) (n c:Nat) (s:ByteArray) (at_ q:Nat) (w:qy) (hn:kG l=n) (hs:yZ w a (l.map ival)) (ha:∀p,a=qw p->p.block<w.heap.size) (hr:Right l) (hq:q<n) (bw:s.size<=100000000) (bi:At s at_ (word l q)):
  yC yG 36 #[qX a n c,qW s,qV qj (at_:Int)] w fun e w'=>e=qp (qZ #[qV qj (q:Int),qV qj ((at_+l.getD q 0:Nat):Int),qV qj 0])/\yI w.heap.size w w':=by
 have bq:∀(fn:Fn) (first bh:Array qz) (w:qy),(Instr.makeFunc fn first bh).run yG w= .ok (.func fn first bh) w:=fun _ _ _ _=>rfl;obtain⟨B,hB⟩:=zB w.heap.size;have ax:=hr.most;rw[hn]at ax;obtain⟨m,hm⟩:=zB (l.getD q 0);have aa:=hr.top _ (zF6 (s:=q) za);have au:=hr.one _ (zF6 (s:=q) za);have I:=zJn l q za;have a8:=qFq l (l.getD q 0) au aa za;rw[hm]at aa au I a8;obtain⟨J,hJ⟩:=zB (at_+m);rw[hm,hJ];obtain⟨W1,a4⟩:=zB (w.alloc (qm #[qW s] 9));obtain⟨W2,O⟩:=zB (W1.alloc (qm #[qV qj (at_:Int)] 3));obtain⟨W3,H⟩:=zB (W2.alloc (qm #[qV qj 0] 3));obtain⟨W4,G⟩:=zB (W3.alloc (qm #[qV qj 0] 3));obtain⟨W5,b⟩:=zB (W4.alloc (qm #[qV qj 0] 26));have z1:W1.heap.size=B+1:=by rw[<-a4,zA,hB]
 have z2:W2.heap.size=B+2:=by rw[<-O,zA,z1]
 have z3:W3.heap.size=B+3:=by rw[<-H,zA,z2]
 have z4:W4.heap.size=B+4:=by rw[<-G,zA,z3]
 have z5:W5.heap.size=B+5:=by rw[<-b,zA,z4]
 have k0:Boxed W1 B 9 (qW s):=by have:=Boxed.new w 9 (qW s);rwa[a4,hB]at this
 have k1:Boxed W2 (B+1) 3 (qV qj (at_:Int)):=by have:=Boxed.new W1 3 (qV qj (at_:Int));rwa[O,z1]at this
 have k2:Boxed W3 (B+2) 3 (qV qj 0):=by have:=Boxed.new W2 3 (qV qj 0);rwa[H,z2]at this
 have k3:Boxed W4 (B+3) 3 (qV qj 0):=by have:=Boxed.new W3 3 (qV qj 0);rwa[G,z3]at this
 have k4:Boxed W5 (B+4) 26 (qV qj 0):=by have:=Boxed.new W4 26 (qV qj 0);rwa[b,z4]at this
 have k3:=k3.alloc (qm #[qV qj 0] 26);rw[b]at k3;have k2:=(k2.alloc (qm #[qV qj 0] 3));rw[G]at k2;have k2:=(k2.alloc (qm #[qV qj 0] 26));rw[b]at k2;have k1:=(k1.alloc (qm #[qV qj 0] 3));rw[H]at k1;have k1:=(k1.alloc (qm #[qV qj 0] 3));rw[G]at k1;have k1:=(k1.alloc (qm #[qV qj 0] 26));rw[b]at k1;have k0:=(k0.alloc (qm #[qV qj (at_:Int)] 3));rw[O]at k0;have k0:=(k0.alloc (qm #[qV qj 0] 3));rw[H]at k0;have k0:=(k0.alloc (qm #[qV qj 0] 3));rw[G]at k0;have k0:=(k0.alloc (qm #[qV qj 0] 26));rw[b]at k0;have a5:yI B w W5:=by
  have b1:yI B w W1:=by rw[<-a4,<-hB];exact(yN _ _).alloc (qPq _) _
  have b2:yI B w W2:=by rw[<-O];exact b1.alloc za _
  have b3:yI B w W3:=by rw[<-H];exact b2.alloc za _
  have b4:yI B w W4:=by rw[<-G];exact b3.alloc za _
  rw[<-b];exact b4.alloc za _
 obtain⟨K0,HC,HS,HN⟩:=yS (TI.mk (m:=m) (pre:=[]) k0 k1 k2 k3 k4 a5 (fun k z=>by cases z) za) (zCk l a n c W5 hn (hs.below (by rw[hB];exact a5)) hr) (hs.below (by rw[hB];exact a5)) hn;rw[hB]at ha;obtain⟨HA,HR,HM,bg,an,HJ,a6,HQ⟩:=yX ha hr hm I a8 hJ bi hq;clear k0 k1 k2 k3 k4 a5 hs hn ha hr hm I a8 hJ bi hq;rw[hB];refine(qQj (n:=3)).1 ?_;refine callsIn_of_wp_marks func36 rfl trivial ?_ rfl;simp only[ntmps36,qQ0,qP3,qQx,Nat.reduceAdd,Nat.reduceSub,qQ9,qR,qRa,qRb,qQl,qQr];gi_wp2_with fail;clear a4 O H G b z1 z2 z3 z4 hB;refine⟨trivial,(qQj.2 HC.out).mono ?_⟩;rintro e w2 ⟨rfl,Z⟩;obtain⟨X,hX⟩:=zB w2.heap.size;have bp:B+5<=X:=by have:=Z.size;omega
 obtain⟨K2,S2⟩:=yQ (K0.out.keep Z) (HS.out.below Z);obtain⟨w3,P⟩:=zB (w2.alloc (qm #[qX a n c] 23));have bx:w3.heap.size=X+1:=by rw[<-P,zA,hX]
 have X3:=yP (Boxed w3 X 23 (qX a n c)) (by
  have:=Boxed.new w2 23 (qX a n c);rw[P,hX]at this;exact this)
 have a9:yI w2.heap.size w2 w3:=by rw[<-P];exact(yN _ _).alloc (qPq _) _
 obtain⟨K3,S3,HL⟩:=yR (K2.out.keep a9) (S2.out.below a9) (zMg a n c w2);rw[hX,P]at HL;clear Z a9 K0 K2 S2 HC HS z5;gi_wp2_with fail;clear hX P;refine⟨trivial,(qQj.2 HL.out).mono ?_⟩;rintro e w6 ⟨rfl,rfl⟩;clear HL;gi_wp2;refine zL9 (gf:=161) (lb:= #[qY (qw ⟨X,0,qx⟩)]) rfl (enters_of func161 zf rfl)
  (LE l) (fun A B=>yI A.heap.size A B) (fun _ _=>False) (lv l 1 20)
  (fun A D h=>⟨h.size,fun k o z _=>(h.block k (zAd z)).trans z⟩)
  (fun _ _ _ h=>by obtain⟨a,c,rfl,_⟩:=h;rfl)
  (fun x W k o o' vs z ho h=>by
   obtain⟨a,c,h1,h2,⟨g,cs,f,h3,h4⟩,h5⟩:=h;exact⟨a,c,h1,zG9 h2 o' z ho,⟨g,cs,f,h3,zBl h4 o' z ho⟩,h5⟩)
  (fun W hW=>zMf X a n c l HN.out HR.out _ (fun h=>h) (fun p hp h=>h) W (fun k z h=>h) (zAp X3.out (hW.block _ za)) (S3.out.below hW))
  (TI B w s at_ m)
  (fun c _ W=>c= .ret/\TX B w q J W)
  (fun pre W k o o' z ho b0 hi=>hi.put o' ho b0 za (by have:=hi.size;omega))
  (fun c pre W k o o' z ho b0 hi=>⟨hi.1,hi.2.put o' ho b0 za (by have:=zAd ho;omega)⟩)
  (fun pre A D hi ho=>hi.keep ho)
  (fun o o'=>(K3.out.keep ((yN _ _).alloc (qPq _) o)).keep ((yN _ _).alloc (qPq _) o'))
  (TJ B X w l n a c s at_ m)
  (fun pre x vs ac W k o o' z ho b0 h=>by
   obtain⟨g,c',L,cs,f,h1,h2,h3,h4,h5,h6,h7⟩:=h;exact⟨g,c',L,cs,f,h1,h2,zBl h3 o' ho b0,h4.put o' ho b0 za (by have:=h4.size;omega),zG9 h5 o' ho b0,zBl h6 o' ho b0,h7⟩)
  ?assign ?body ?done ?stop
 case assign=>
  rintro k pre x W vs K az hi ⟨a',c',rfl,N,⟨g,cs,f,rfl,hg⟩,h1,h2,h3⟩ hK;obtain⟨F,hF⟩:=zB (first l x);obtain⟨mm,hm⟩:=zB (cnt l x);obtain⟨Wc,ai⟩:=zB (W.alloc (qm #[qV qj (x:Int),qV .u64 (F:Int),qX (qw ⟨g,0,qx⟩) mm c'] 199));have u:yI W.heap.size W Wc:=by rw[<-ai];exact(yN _ _).alloc (qPq _) _
  have hX:Wc.heap[W.heap.size]? =qw (qm #[qV qj (x:Int),qV .u64 (F:Int),qX (qw ⟨g,0,qx⟩) mm c'] 199):=by
   rw[<-ai];show(W.heap.push _)[W.heap.size]? =_;simp
  have ar:=fun ac=>hK ac Wc ⟨u.size,fun k o z _=>(u.block k (zAd z)).trans z⟩ (Sc.below u);have af:=N.below u;have ah:=hi.keep u;have av:=(u.block g (zAd hg)).trans hg;have ag:=zH (fun ac h=>ar ac ⟨g,c',W.heap.size,cs,f,rfl,h,by rw[hF,hm];exact hX,ah,af,av,h1,h2,h3⟩);rw[hF,hm]at ag⊢;clear hK ar hi N hg hX af ah av u;gi_wp2;exact ag.out _ rfl
 case body=>
  rintro k pre x W vs ac az ⟨g,c',L,cs,f,rfl,rfl,hL,hi,N,hg,h1,h2,h3⟩ ae;have ak:=qC9 ae an.out hi.less;obtain⟨F,hF⟩:=zB (first l x);obtain⟨mm,ab⟩:=zB (cnt l x);have ay:=HR.out.zEs x h2;have br:2^x<=2^20:=qR8 za za;have aj:=a6.out.1;rw[zCu,HM.out]at aj;have aq:=zEy (take s at_ x);rw[take_length]at aq;have ap:take s at_ x=(word l q).take x:=by
   have:=a6.out.2;rw[zCu,HM.out]at this;rw[<-this];unfold take;rw[<-qTx,List.take_range,qTs ak]
  have M:=zPh HR.out q (by rw[HN.out];exact HQ.out) x (by rw[HM.out];exact ak);rw[<-ap]at M;have R:=fun(h:x<m)=>zSc HR.out q (by rw[HN.out];exact HQ.out) x (by rw[HM.out];exact h);have hG:=zB7 s at_ x za za za W;obtain⟨v,hv⟩:=zB (val (take s at_ x));rw[hv]at M aq hG;rw[<-M]at R;rw[hF,ab]at hL ay R⊢;have hne:∀j:Nat,(∃(t:yA) (v:qz),Boxed W j t v)->¬L=j/\¬j=L:=by
   rintro j ⟨t,v',h⟩;have:¬L=j:=by rintro rfl;rw[show W.heap[L]? =_ from h]at hL;injection hL with hL;injection hL with hL _ _;have:=qPs Array.size hL;simp at this
   exact⟨this,fun h=>this h.symm⟩
  obtain⟨b8,b6,b9⟩:=yR (hne (B+2) ⟨_,_,hi.b2⟩) (hne (B+3) ⟨_,_,hi.b3⟩) (hne (B+4) ⟨_,_,hi.b4⟩);clear hne;obtain⟨HG,ba,bd,HI,bf,bn,HF,b7⟩:=yX hG R M hi N hg hF ab;obtain⟨y0,y1,y2,_⟩:=cells3 hL;have u0:=hi.b0.cell;have u1:=hi.b1.cell;have u2:=hi.b2.cell;have u3:=hi.b3.cell;have u4:=hi.b4.cell;have f2:=hi.b2.frozen;have f3:=hi.b3.frozen;have f4:=hi.b4.frozen;have HP:=zH ae;clear hL hi N hg hF ab hv R M hG ap aj;gi_wp2_with fail;refine⟨trivial,(CallsIn.inRound k (qQj.2 HG.out)).mono ?_⟩;rintro e w7 ⟨rfl,rfl⟩;clear HG;have j0:IntKind.u64.wrap (mm:Int)=(mm:Int):=qSh _ ⟨za,za⟩;by_cases b5:x<m
  ·have bc:=ba.out b5;have j1:IntKind.u64.wrap ((v:Int)-(F:Int))=(v:Int)-(F:Int):=qSh _ ⟨za,za⟩;have j2:decide ((v:Int)-(F:Int)<(mm:Int))=yE:=qP1 za;clear bc;gi_wp2;refine⟨⟨qPq _,fun _ _ h _=>h⟩,Sc.refl _ _,?_⟩;have hi:=HI.out;exact⟨hi.b0,hi.b1,hi.b2,hi.b3,hi.b4,hi.below,fun k z=>by
    rcases qSi.1 z with h|h
    ·exact hi.less k h
    ·rw[qRm]at h;omega,hi.size⟩
  ·obtain rfl:x=m:=za
   obtain⟨r,hr⟩:=zB (rank l q);have I:=bg.out;have a7:v=F+r:=by
    have:=bd.out;rw[HM.out,Nat.sub_self,Nat.pow_zero,Nat.div_one]at this;rw[this];unfold zB9;rw[HM.out,HF.out,hr]
   rw[hr,b7.out]at I;have am:(whose l x)[r]? =qw q:=by
    have:=zDx l q (by rw[HN.out];exact HQ.out);rwa[HM.out,hr]at this
   obtain⟨g',off,ad,e0⟩:=bf.out r (ival q) (by rw[qP2,am];rfl);injection ad with ad
   injection ad with e1 e2 _
   subst e1 e2;rw[qQc]at e0;have j1:IntKind.u64.wrap ((v:Int)-(F:Int))=(r:Int):=by rw[a7];rw[show((F+r:Nat):Int)-(F:Int)=(r:Int)by omega];exact qSh _ ⟨za,za⟩
   have j3:(v:Int)-(F:Int)=(r:Int):=za
   have bu:(r:Int)<(mm:Int):=za
   have bk:(x:Int)<=20:=za
   have bj:(at_:Int)<=900000000:=by have:=a6.out.1;omega
   have ao:=yP ((at_:Int)+(x:Int)=(J:Int)) (by have:=HJ.out;omega);have bo:=zH a7;clear hr am a7;gi_wp2;obtain⟨n1,_⟩:=b8.out;obtain⟨n2,_⟩:=b6.out;obtain⟨n3,_⟩:=b9.out;refine Kit.zRj (S:=fun w'=>w'.cell? ⟨L,2,qx⟩=qw (qX (qw ⟨g,0,qx⟩) mm c')/\w'.cell? ⟨L,0,qx⟩=qw (qV qj (x:Int))/\w'.cell? ⟨B+1,0,qx⟩=qw (qV qj (at_:Int))) zf zf ⟨y2,y0,u1⟩ (fun hHeld=> ?_);refine qTi (i:=0) (v:=qY (qw ⟨L,2,qx⟩)) rfl zf zf zf (fun _ _ _ h=>h) (Or.inl ⟨zh,fun w hSw=>by(obtain⟨w0,w1,w2⟩:=hSw;go_simp)⟩) hHeld ?_
   try simp only[qS1,qSu,qS9,Act.put,qPz,qPy,qP0]
   refine qTi (i:=1) (v:=qX (qw ⟨g,0,qx⟩) mm c') rfl zf zf zf (fun _ _ _ h=>h) (Or.inl ⟨zh,fun w hSw=>by(obtain⟨w0,w1,w2⟩:=hSw;go_simp)⟩) hHeld ?_
   try simp only[qS1,qSu,qS9,Act.put,qPz,qPy,qP0]
   refine qTi (i:=2) (v:=qV .u64 (r:Int)) rfl zf zf zf (fun _ _ _ h=>h) (Or.inl ⟨zh,fun w hSw=>by(obtain⟨w0,w1,w2⟩:=hSw;go_simp)⟩) hHeld ?_
   try simp only[qS1,qSu,qS9,Act.put,qPz,qPy,qP0]
   refine qTi (i:=3) (v:=qY (qw ⟨g,r,qx⟩)) rfl zf zf zf (fun _ _ _ h=>h) (Or.inl ⟨zh,fun w hSw=>by(obtain⟨w0,w1,w2⟩:=hSw;go_simp)⟩) hHeld ?_
   try simp only[qS1,qSu,qS9,Act.put,qPz,qPy,qP0]
   refine qTi (i:=5) (v:=qV qj (at_:Int)) rfl zf zf zf (fun _ _ _ h=>h) (Or.inl ⟨zh,fun w hSw=>by(obtain⟨w0,w1,w2⟩:=hSw;go_simp)⟩) hHeld ?_
   try simp only[qS1,qSu,qS9,Act.put,qPz,qPy,qP0]
   refine qTi (i:=6) (v:=qY (qw ⟨L,0,qx⟩)) rfl zf zf zf (fun _ _ _ h=>h) (Or.inl ⟨zh,fun w hSw=>by(obtain⟨w0,w1,w2⟩:=hSw;go_simp)⟩) hHeld ?_
   try simp only[qS1,qSu,qS9,Act.put,qPz,qPy,qP0]
   refine qTi (i:=7) (v:=qV qj (x:Int)) rfl zf zf zf (fun _ _ _ h=>h) (Or.inl ⟨zh,fun w hSw=>by(obtain⟨w0,w1,w2⟩:=hSw;go_simp)⟩) hHeld ?_
   try simp only[qS1,qSu,qS9,Act.put,qPz,qPy,qP0]
   refine qTi (i:=8) (v:=qV qj (J:Int)) rfl zf zf zf (fun _ _ _ h=>h) (Or.inl ⟨zh,fun w hSw=>by(obtain⟨w0,w1,w2⟩:=hSw;go_simp;rw[ao.out];have:=ao.out;exact qQb _ ⟨za,za⟩)⟩) hHeld ?_
   try simp only[qS1,qSu,qS9,Act.put,qPz,qPy,qP0]
   have hi:=HI.out;have ll:(loadVar 3 ⟨g,r,qx⟩).run yG W.drew= .ok (qV qj (q:Int)) W.drew:=by
    have bb:W.drew.cell? ⟨g,r,qx⟩=qw (qV qj (q:Int)):=e0;simp[loadVar,go_sem,bb]
   refine Kit.zX8 4 (ty:=3) (x:= .tmp 45) (d:=qw 46) (g:=⟨g,r,qx⟩) (v:=qV qj (q:Int)) zf zf zf zf ll hHeld ?_;have a0:∀(V:qy) (j:Nat) (t:yA) (v0:qz) (k:Int),(prog.info? t).map (·.size)=qw 1->Boxed V j t v0->(storeVar t ⟨j,0,qx⟩ (qV qj k)).run yG V= .ok () (V.setCell ⟨j,0,qx⟩ (qV qj k)):=by
    intro V j t v0 k ht hb;have c:=hb.cell;have f:=hb.frozen;cases hq:prog.info? t with
    |none=>simp[hq]at ht
    |some i=>
     have h1:i.size=1:=by simpa [hq]using ht
     simp[storeVar,sizeOf,typeInfo,hq,h1,go_sem,c,f]
   have q2:Boxed W.drew (B+2) 3 (qV qj 0):=hi.b2;have q3:Boxed (W.drew.setCell ⟨B+2,0,qx⟩ (qV qj (q:Int))) (B+3) 3 (qV qj 0):=(zAa za).trans hi.b3;have q4:Boxed ((W.drew.setCell ⟨B+2,0,qx⟩ (qV qj (q:Int))).setCell ⟨B+3,0,qx⟩ (qV qj (J:Int))) (B+4) 26 (qV qj 0):=(zAa za).trans ((zAa za).trans hi.b4);have keep:∀(V:qy) (j:Nat) (v:qz),¬L=j->¬B+1=j->(V.cell? ⟨L,2,qx⟩=qw (qX (qw ⟨g,0,qx⟩) mm c')/\V.cell? ⟨L,0,qx⟩=qw (qV qj (x:Int))/\V.cell? ⟨B+1,0,qx⟩=qw (qV qj (at_:Int)))->((V.setCell ⟨j,0,qx⟩ v).cell? ⟨L,2,qx⟩=qw (qX (qw ⟨g,0,qx⟩) mm c')/\(V.setCell ⟨j,0,qx⟩ v).cell? ⟨L,0,qx⟩=qw (qV qj (x:Int))/\(V.setCell ⟨j,0,qx⟩ v).cell? ⟨B+1,0,qx⟩=qw (qV qj (at_:Int))):=by
    rintro V j v h1 h2 ⟨a1,a2,a3⟩;exact⟨(qRe (zAa h1)).trans a1,(qRe (zAa h1)).trans a2,(qRe (zAa h2)).trans a3⟩
   refine Kit.zH9 9 (ty:=3) (x:= .tmp 6) (y:= .tmp 46) (g:=⟨B+2,0,qx⟩) (v:=qV qj (q:Int)) zf zf zf zf zf (a0 _ _ _ _ _ zf q2) (keep _ _ _ n1 za hHeld) (fun hHeld=> ?_);refine Kit.zH9 10 (ty:=3) (x:= .tmp 7) (y:= .tmp 50) (g:=⟨B+3,0,qx⟩) (v:=qV qj (J:Int)) zf zf zf zf zf (a0 _ _ _ _ _ zf q3) (keep _ _ _ n2 za hHeld) (fun hHeld=> ?_);refine Kit.zH9 11 (ty:=26) (x:= .tmp 8) (y:= .const (qV qj 0)) (g:=⟨B+4,0,qx⟩) (v:=qV qj 0) zf zf zf zf zf (a0 _ _ _ _ _ zf q4) (keep _ _ _ n3 za hHeld) (fun hHeld=> ?_);refine wpAnyH_done zf ?_ _;obtain⟨F',Y⟩:=zB (((W.drew.setCell ⟨B+2,0,qx⟩ (qV qj (q:Int))).setCell ⟨B+3,0,qx⟩ (qV qj (J:Int))).setCell ⟨B+4,0,qx⟩ (qV qj 0));have TF:=yP (TX B w q J F') (by
    rw[<-Y];exact⟨(zAa za).trans ((zAa za).trans (Boxed.set (qV qj (q:Int)) q2)),(zAa za).trans (Boxed.set (qV qj (J:Int)) q3),Boxed.set (qV qj 0) q4,
     ((hi.below.drew.setCell (p:=⟨B+2,0,qx⟩) zm _).setCell (p:=⟨B+3,0,qx⟩) zm _).setCell (p:=⟨B+4,0,qx⟩) zm _⟩)
   have KF:=yP (KeepsOthers W F') (by
    rw[<-Y];exact(((KeepsOthers.drew W).trans (KeepsOthers.setCell _ _ _)).trans (KeepsOthers.setCell _ _ _)).trans (KeepsOthers.setCell _ _ _))
   rw[Y];clear Y q2 q3 q4 a0 keep hHeld ll hi e0 y0 y1 y2 u0 u1 u2 u3 u4 f2 f3 f4;rw[show ∀(Q:Exit->Act->qy->Prop) (a:Act) (w:qy),Kit.zDy Q .normal a w=Q .normal a w from fun _ _ _=>rfl];gi_wp2;exact⟨KF.out,rfl,TF.out⟩
 case done=>
  rintro D W hD hi hK;exact absurd (hi.less m an.out) za
 case stop=>
  rintro D c pre W hD _ ⟨rfl,h⟩ hK;have yo:=h.b2.cell;have yo:=h.b3.cell;have yo:=h.b4.cell;have HI:=zH h;clear h;gi_wp2;have h2:=HI.out.put (qo qx) hK rfl za (by have:=zAd hK;omega);refine⟨zm,.inl ⟨_,_,rfl,run_takeDeferred hK,?_⟩⟩;have z2:=h2.b2.cell;have z3:=h2.b3.cell;have z4:=h2.b4.cell;exact⟨qZ #[qV qj (q:Int),qV qj (J:Int),qV qj 0],by simp[results,f36,go_sem,z2,z3,z4],⟨rfl,h2.below⟩⟩
end Hf
end Go.Proofs.YtppnakkaljbmbaaGreatDoor
