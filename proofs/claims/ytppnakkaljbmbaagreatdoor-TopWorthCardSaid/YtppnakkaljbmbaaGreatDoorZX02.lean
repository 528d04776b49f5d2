/- Steps of a proof; no condition beyond what each states. -/
import Derived.BigQuiet
import Derived.Deep.DeepCutAuto
import Derived.Lib.Hide
import Derived.Sort.LotA
import Derived.Test.YtppnakkaljbmbaaGreatDoorProg
import Derived.WalkLawsBesides
import Derived.WalkSpells
import Derived.Test.YtppnakkaljbmbaaGreatDoorZX00
set_option linter.unusedVariables false
set_option linter.unusedSimpArgs false
set_option maxRecDepth 100000
set_option maxHeartbeats 8000000
open List renaming length->kG
open Go.Proofs.YtppnakkaljbmbaaGreatDoor.Kit renaming Own->yg,zAg->yh,zBo->xM
open Go.RowKit
open Go.Proofs.Tryz
open Go.Value renaming int->qV,string->qW,slice->qX,pointer->qY,tuple->qZ,bool->qc
open Go.IntKind renaming i64->qj,u8->ql
open Go.Obj renaming cells->qm
open Go.Ending renaming returned->qp
open Option renaming some->qw,none->qx
open Go renaming World->qy,Value->qz,TypeId->yA,Addr->yB,Calls->yC
open Bool renaming true->yD,false->yE
open Decidable renaming decide->yF
open Go.Proofs.Tryz renaming prog->yG
open Go.RowKit renaming Below->yI
open List renaming range->yK
open Go.World renaming cell?->yM
open Go.RowKit.Below renaming refl->yN
namespace Go.Proofs.YtppnakkaljbmbaaGreatDoor
namespace St
open Go.Sort
variable {α:Type} [Inhabited α]
structure Ord (lt t:α->α->Bool) (I:α->Nat):Prop where
 swo:SWO t
 ask:∀x y,I x<I y->lt y x=t y x
variable {lt t:α->α->Bool} {I:α->Nat}
theorem zXr (h:Ord lt t I) (a:Nat):∀(j:Nat) (d:Array α),j<d.size->(∀k,a<=k->k<j->I d[k]! <I d[j]!)->insInner lt a j d=insInner t a j d
 |0,d,_,_=>rfl
 |j+1,d,hj,hk=>by
  unfold insInner;by_cases b:a<=j
  ·rw[h.ask _ _ (hk j b za)];split
   ·refine zXr h a j _ (by rw[size_swp];omega) (fun k c e=> ?_);rw[swp_other _ _ _ _ za za,swp_right _ _ _ za];exact hk k c za
   ·rfl
  ·rw[qP1 za,Bool.false_and,Bool.false_and,qPt zm,qPt zm]
theorem zTy (h:Ord lt t I) (a b:Nat):∀(n i:Nat) (d:Array α),b-i=n->a<i->b<=d.size->SortedIn t a i d->(∀f k,a<=f->f<k->i<=k->k<b->I d[f]! <I d[k]!)->insOuter lt a b i d=insOuter t a b i d
 |0,i,d,hn,hai,hb,_,_=>by rw[insOuter,qPt za,insOuter,qPt za]
 |n+1,i,d,hn,hai,hb,hs,hk=>by
  have r:insOuter lt a b i d=insOuter lt a b (i+1) (insInner lt a i d):=by rw[insOuter,qPr za]
  have s:insOuter t a b i d=insOuter t a b (i+1) (insInner t a i d):=by rw[insOuter,qPr za]
  rw[r,s];rw[zXr h a i d za (fun k e g=>hk k i e g (qPq _) za)];have e:=insInner_spec h.swo swp_permIn permIn_refl permIn_trans a (i+1) i (qQ6 i) i d za (qPq _) za ⟨fun p q m o z _ F=>hs p q m o za,fun q e g=>za⟩;refine zTy h a b n (i+1) _ za za (by rw[e.1.1];exact hb) e.2 (fun f k g u w l=> ?_);rw[e.1.2.1 k (.inr w)];by_cases c:i+1<=f
  ·rw[e.1.2.1 f (.inr c)];exact hk f k g u za l
  ·exact permIn_all d _ a (i+1) (fun x=>I x<I d[k]!) za e.1 (fun j y B=>hk j k y za za l) f g za
theorem qAq (h:Ord lt t I) (d:Array α) (a b:Nat) (m:a<=b) (l:b<=d.size) (p:∀c k,a<=c->c<k->k<b->I d[c]! <I d[k]!):
  PermIn a b d (insertionSort lt d a b)/\SortedIn t a b (insertionSort lt d a b):=by
 have e:insertionSort lt d a b=insertionSort t d a b:=
  zTy h a b _ (a+1) d rfl za l (fun i j f g n=>za) (fun c k f g n o=>p c k f g o)
 rw[e];exact insertionSort_holds h.swo d a b m l
structure Shl (d:Array α) (a k:Nat) (dk:Array α):Prop where
 perm:PermIn a (k+1) d dk
 left:∀q,a<=q->q<k->dk[q]! =d[q+1]!
 it:dk[k]! =d[a]!
theorem Shl.start (d:Array α) (a:Nat):Shl d a a d:=⟨permIn_refl _ _ _,fun q b c=>za,rfl⟩
theorem Shl.step {d dk:Array α} {a k:Nat} (h:Shl d a k dk) (b:a<=k) (g:k+1<d.size):Shl d a (k+1) (swp dk k (k+1)):=by
 have i:=h.perm.1;refine⟨permIn_trans _ _ _ _ _ (permIn_mono _ _ _ _ _ _ (qPq _) (qRu _) za h.perm) (swp_permIn _ _ _ _ _ b za za za za),fun q c f=> ?_,?_⟩
 ·by_cases e:q=k
  ·subst e;rw[swp_left _ _ _ za za,h.perm.2.1 _ (.inr (qPq _))]
  ·rw[swp_other _ _ _ _ e za];exact h.left q c za
 ·rw[swp_right _ _ _ za];exact h.it
structure Shr (d:Array α) (m k:Nat) (dk:Array α):Prop where
 perm:PermIn k (m+1) d dk
 right:∀q,k<q->q<=m->dk[q]! =d[q-1]!
 it:dk[k]! =d[m]!
theorem Shr.start (d:Array α) (m:Nat):Shr d m m d:=⟨permIn_refl _ _ _,fun q a b=>za,rfl⟩
theorem Shr.step {d dk:Array α} {m k:Nat} (h:Shr d m (k+1) dk) (b:k+1<=m) (f:m<d.size):Shr d m k (swp dk (k+1) k):=by
 have g:=h.perm.1;refine⟨permIn_trans _ _ _ _ _ (permIn_mono _ _ _ _ _ _ (qRu _) (qPq _) za h.perm) (swp_permIn _ _ _ _ _ za za za za za),fun q c a=> ?_,?_⟩
 ·by_cases e:q=k+1
  ·subst e;rw[swp_left _ _ _ za za,h.perm.2.1 _ (.inl za)];rfl
  ·rw[swp_other _ _ _ _ e za];exact h.right q za a
 ·rw[swp_right _ _ _ za];exact h.it
structure Pre (t:α->α->Bool) (I:α->Nat) (a m b:Nat) (d:Array α):Prop where
 l:SortedIn t a m d
 r:SortedIn t m b d
 i:∀p q,a<=p->p<m->m<=q->q<b->I d[p]! <I d[q]!
theorem zZ9 (h:Ord lt t I) {d dk:Array α} {a b i:Nat} (g:Pre t I a (a+1) b d) (hi:a+1<=i) (w:i<=b) (u:b<=d.size)
  (r:∀q,a+1<=q->q<i->lt d[q]! d[a]! =yD) (s:i<b->lt d[i]! d[a]! =yE) (f:Shl d a (i-1) dk):PermIn a b d dk/\SortedIn t a b dk:=by
 have x:=f.perm.1;have c:=permIn_mono _ _ _ _ _ _ (qPq a) (show i-1+1<=b by omega) u f.perm;refine⟨c,fun p q k l j=> ?_⟩;have up:∀q,i<=q->q<b->t d[q]! d[a]! =yE:=by
  intro q n j;have m:t d[i]! d[a]! =yE:=by rw[<-h.ask _ _ (g.i a i (qPq _) za za za)];exact s za
  by_cases e:q=i
  ·subst e;exact m
  ·exact h.swo.ntrans _ _ _ (g.r i q za za j) m
 have dn:∀q,a+1<=q->q<i->t d[a]! d[q]! =yE:=by
  intro q n o;refine h.swo.asymmA ?_;rw[<-h.ask _ _ (g.i a q (qPq _) za za za)];exact r q n o
 by_cases c1:q<i-1
 ·rw[f.left q za c1,f.left p k za];exact g.r (p+1) (q+1) za za za
 ·by_cases c2:q=i-1
  ·subst c2;rw[f.it,f.left p k l];exact dn (p+1) za za
  ·rw[f.perm.2.1 q (.inr za)];by_cases c3:p<i-1
   ·rw[f.left p k c3];exact g.r (p+1) q za za j
   ·by_cases c4:p=i-1
    ·subst c4;rw[f.it];exact up q za j
    ·rw[f.perm.2.1 p (.inr za)];exact g.r p q za l j
theorem zXd (h:Ord lt t I) {d dk:Array α} {a m i:Nat} (f:Pre t I a m (m+1) d) (hi:a<=i) (u:i<=m) (x:m<d.size)
  (r:∀q,a<=q->q<i->lt d[m]! d[q]! =yE) (s:i<m->lt d[m]! d[i]! =yD) (c:Shr d m i dk):PermIn a (m+1) d dk/\SortedIn t a (m+1) dk:=by
 have y:=c.perm.1;have b:=permIn_mono _ _ _ _ _ _ hi (qPq (m+1)) za c.perm;refine⟨b,fun p q g j w=> ?_⟩;have dn:∀q,a<=q->q<i->t d[m]! d[q]! =yE:=by
  intro q k n;rw[<-h.ask _ _ (f.i q m k za za za)];exact r q k n
 have up:∀q,i<=q->q<m->t d[q]! d[m]! =yE:=by
  intro q k o;have l:t d[i]! d[m]! =yE:=by
   refine h.swo.asymmA ?_;rw[<-h.ask _ _ (f.i i m hi za za za)];exact s za
  by_cases e:q=i
  ·subst e;exact l
  ·exact h.swo.ntrans _ _ _ (f.l i q hi za o) l
 by_cases c1:q<i
 ·rw[c.perm.2.1 q (.inl c1),c.perm.2.1 p (.inl za)];exact f.l p q g j za
 ·by_cases c2:q=i
  ·subst c2;rw[c.it,c.perm.2.1 p (.inl j)];exact dn p g j
  ·rw[c.right q za za];by_cases c3:p<i
   ·rw[c.perm.2.1 p (.inl c3)];exact f.l p (q-1) g za za
   ·by_cases c4:p=i
    ·subst c4;rw[c.it];exact up (q-1) za za
    ·rw[c.right p za za];exact f.l (p-1) (q-1) za za za
structure Rot (d:Array α) (a m b:Nat) (d':Array α):Prop where
 perm:PermIn a b d d'
 l:∀q,a<=q->q<a+(b-m)->d'[q]! =d[q+(m-a)]!
 r:∀q,a+(b-m)<=q->q<b->d'[q]! =d[q-(b-m)]!
structure Mid (d:Array α) (a m b i j:Nat) (dk:Array α):Prop where
 perm:PermIn a b d dk
 out:∀d',PermIn a b d d'->(∀q,q<m-i\/m+j<=q->d'[q]! =dk[q]!)->(∀q,m-i<=q->q<m-i+j->d'[q]! =dk[q+i]!)->(∀q,m-i+j<=q->q<m+j->d'[q]! =dk[q-j]!)->Rot d a m b d'
theorem Mid.start (d:Array α) {a m b:Nat} (i:a<=m) (j:m<=b):Mid d a m b (m-a) (b-m) d:=by
 refine⟨permIn_refl _ _ _,fun d' h k c e=>⟨h,fun q f g=>c q za za,fun q f g=>e q za za⟩⟩
structure Swr (d:Array α) (a b n:Nat) (d':Array α):Prop where
 size:d'.size=d.size
 out:∀q,¬(a<=q/\q<a+n)->¬(b<=q/\q<b+n)->d'[q]! =d[q]!
 l:∀q,q<n->d'[a+q]! =d[b+q]!
 r:∀q,q<n->d'[b+q]! =d[a+q]!
 perm:∀lo hi,lo<=a->b+n<=hi->hi<=d.size->PermIn lo hi d d'
theorem Swr.start (d:Array α) (a b:Nat):Swr d a b 0 d:=⟨rfl,fun _ _ _=>rfl,fun q h=>za,fun q h=>za,fun _ _ _ _ _=>permIn_refl _ _ _⟩
theorem Swr.step {d d':Array α} {a b n:Nat} (h:Swr d a b n d') (k:a+n<b) (l:b+n<d.size):Swr d a b (n+1) (swp d' (a+n) (b+n)):=by
 have j:=h.size;refine⟨by rw[size_swp];exact j,fun q c f=> ?_,fun q i=> ?_,fun q i=> ?_,fun lo hi c f g=> ?_⟩
 ·rw[swp_other _ _ _ _ za za];exact h.out q za za
 ·by_cases e:q=n
  ·subst e;rw[swp_left _ _ _ za za];exact h.out _ za za
  ·rw[swp_other _ _ _ _ za za];exact h.l q za
 ·by_cases e:q=n
  ·subst e;rw[swp_right _ _ _ za];exact h.out _ za za
  ·rw[swp_other _ _ _ _ za za];exact h.r q za
 ·exact permIn_trans _ _ _ _ _ (h.perm lo hi c za g) (swp_permIn _ _ _ _ _ za za za za za)
theorem Mid.more {d dk g:Array α} {a m b i j:Nat} (h:Mid d a m b i j dk) (hi:a<=m-i) (u:i<=m) (p:m+j<=b) (w:b<=d.size) (s:j<i) (e:Swr dk (m-i) m j g):Mid d a m b (i-j) j g:=by
 have x:=h.perm.1;refine⟨permIn_trans _ _ _ _ _ h.perm (e.perm a b hi p za),fun d' r k l n=>h.out d' r (fun q f=> ?_) (fun q o f=> ?_) (fun q o f=> ?_)⟩
 ·rw[k q za];exact e.out q za za
 ·rw[k q za];have:=e.l (q-(m-i)) za;rw[show m-i+(q-(m-i))=q by omega,show m+(q-(m-i))=q+i by omega]at this;exact this
 ·by_cases c:q<m-(i-j)+j
  ·rw[l q za c];have:=e.r (q+(i-j)-m) za;rw[show m+(q+(i-j)-m)=q+(i-j)by omega,show m-i+(q+(i-j)-m)=q-j by omega]at this;exact this
  ·rw[n q za f];exact e.out (q-j) za za
theorem Mid.less {d dk f:Array α} {a m b i j:Nat} (h:Mid d a m b i j dk) (hi:a<=m-i) (s:i<=m) (w:m+j<=b) (u:b<=d.size) (r:i<j) (e:Swr dk (m-i) (m+j-i) i f):Mid d a m b i (j-i) f:=by
 have x:=h.perm.1;refine⟨permIn_trans _ _ _ _ _ h.perm (e.perm a b hi za za),fun d' p g n o=>h.out d' p (fun q l=> ?_) (fun q k l=> ?_) (fun q k l=> ?_)⟩
 ·rw[g q za];exact e.out q za za
 ·by_cases c:q<m-i+(j-i)
  ·rw[n q k c];exact e.out (q+i) za za
  ·rw[o q za za];have:=e.l (q-(j-i)-(m-i)) za;rw[show m-i+(q-(j-i)-(m-i))=q-(j-i)by omega,show m+j-i+(q-(j-i)-(m-i))=q+i by omega]at this;exact this
 ·rw[g q za];have:=e.r (q-(m+j-i)) za;rw[show m+j-i+(q-(m+j-i))=q by omega,show m-i+(q-(m+j-i))=q-j by omega]at this;exact this
theorem Mid.last {d dk e:Array α} {a m b i:Nat} (h:Mid d a m b i i dk) (hi:a<=m-i) (k:i<=m) (j:m+i<=b) (l:b<=d.size) (c:Swr dk (m-i) m i e):Rot d a m b e:=by
 have n:=h.perm.1;refine h.out e (permIn_trans _ _ _ _ _ h.perm (c.perm a b hi j za)) (fun q f=>c.out q za za) (fun q g f=> ?_) (fun q g f=> ?_)
 ·have:=c.l (q-(m-i)) za;rw[show m-i+(q-(m-i))=q by omega,show m+(q-(m-i))=q+i by omega]at this;exact this
 ·have:=c.r (q-m) za;rw[show m+(q-m)=q by omega,show m-i+(q-m)=q-i by omega]at this;exact this
structure Half (t:α->α->Bool) (I:α->Nat) (a s mid e b:Nat) (d:Array α):Prop where
 one:Pre t I a s mid d
 two:Pre t I mid e b d
 le:∀p q,a<=p->p<mid->mid<=q->q<b->t d[q]! d[p]! =yE
theorem half (h:Ord lt t I) {d d':Array α} {a m b s e mid:Nat} (f:Pre t I a m b d) (has:a<=s) (R:s<=m) (N:m<=e) (M:e<=b) (S:b<=d.size) (L:s+e=mid+m)
  (F:a<s->e<b->lt d[e]! d[s-1]! =yE) (G:s<m->m<e->lt d[e-1]! d[s]! =yD) (r:Rot d s m e d'):Half t I a s mid e b d':=by
 have lo:∀p,p<s->d'[p]! =d[p]! :=fun p f=>r.perm.2.1 p (.inl f);have hi:∀p,e<=p->d'[p]! =d[p]! :=fun p f=>r.perm.2.1 p (.inr f);have u:∀p,s<=p->p<mid->d'[p]! =d[p+(m-s)]! :=fun p l n=>r.l p l za;have o:∀p,mid<=p->p<e->d'[p]! =d[p-(e-m)]! :=fun p l n=>r.r p za n;have K:∀p q,s<=p->p<m->m<=q->q<e->t d[p]! d[q]! =yE:=by
  intro p q l z n P;have w:t d[s]! d[e-1]! =yE:=by
   refine h.swo.asymmA ?_;rw[<-h.ask _ _ (f.i s (e-1) has za za za)];exact G za za
  have x:t d[p]! d[s]! =yE:=by
   by_cases c:p=s
   ·subst c;exact h.swo.irrefl _
   ·exact f.l s p has za z
  have y:t d[e-1]! d[q]! =yE:=by
   by_cases c:q=e-1
   ·subst c;exact h.swo.irrefl _
   ·exact f.r q (e-1) n za za
  exact h.swo.ntrans _ _ _ (h.swo.ntrans _ _ _ x w) y
 have H:∀p q,a<=p->p<s->e<=q->q<b->t d[q]! d[p]! =yE:=by
  intro p q l O n B;have w:t d[e]! d[s-1]! =yE:=by
   rw[<-h.ask _ _ (f.i (s-1) e za za za za)];exact F za za
  have x:t d[q]! d[e]! =yE:=by
   by_cases c:q=e
   ·subst c;exact h.swo.irrefl _
   ·exact f.r e q za za B
  have y:t d[s-1]! d[p]! =yE:=by
   by_cases c:p=s-1
   ·subst c;exact h.swo.irrefl _
   ·exact f.l p (s-1) l za za
  exact h.swo.ntrans _ _ _ (h.swo.ntrans _ _ _ x w) y
 refine⟨⟨fun p q g j i=> ?_,fun p q g j i=> ?_,fun p q g j i k=> ?_⟩,⟨fun p q g j i=> ?_,fun p q g j i=> ?_,fun p q g j i k=> ?_⟩,fun p q g j i k=> ?_⟩
 ·rw[lo p za,lo q i];exact f.l p q g j za
 ·rw[u p g za,u q za i];exact f.r _ _ za za za
 ·rw[lo p j,u q i k];exact f.i _ _ g za za za
 ·rw[o p g za,o q za i];exact f.l _ _ za za za
 ·rw[hi p g,hi q za];exact f.r _ _ za j i
 ·rw[o p g j,hi q i];exact f.i _ _ za za za k
 ·by_cases c1:p<s
  ·rw[lo p c1];by_cases c2:q<e
   ·rw[o q i c2];exact f.l _ _ g za za
   ·rw[hi q za];exact H p q g c1 za k
  ·rw[u p za j];by_cases c2:q<e
   ·rw[o q i c2];exact K _ _ za za za za
   ·rw[hi q za];exact f.r _ _ za za k
theorem Rot.none (d:Array α) {a m b:Nat} (h:a=m\/m=b) (f:a<=m) (g:m<=b):Rot d a m b d:=by
 refine⟨permIn_refl _ _ _,fun q c e=> ?_,fun q c e=> ?_⟩
 ·rcases h with h|h
  ·rw[show q+(m-a)=q by omega]
  ·omega
 ·rcases h with h|h
  ·omega
  ·rw[show q-(b-m)=q by omega]
theorem Pre.done {a m b:Nat} {d:Array α} (h:Pre t I a m b d) (e:m<=a\/b<=m):SortedIn t a b d:=by
 intro p q f c g;rcases e with e|e
 ·exact h.r p q za c g
 ·exact h.l p q f c za
theorem Half.first {a s mid e b:Nat} {d d':Array α} (h:Half t I a s mid e b d) (w:b<=d.size) (o:a<=mid) (r:mid<=b) (u:mid<=e) (j:PermIn a mid d d'):Pre t I mid e b d'/\∀p q,a<=p->p<mid->mid<=q->q<b->t d'[q]! d'[p]! =yE:=by
 have hi:∀p,mid<=p->d'[p]! =d[p]! :=fun p n=>j.2.1 p (.inr n);refine⟨⟨fun p q c g f=> ?_,fun p q c g f=> ?_,fun p q c g f i=> ?_⟩,fun p q c g f i=> ?_⟩
 ·rw[hi p c,hi q za];exact h.two.l p q c g f
 ·rw[hi p za,hi q za];exact h.two.r p q c g f
 ·rw[hi p c,hi q za];exact h.two.i p q c g f i
 ·rw[hi q f];exact permIn_all d d' a mid (fun x=>t d[q]! x=yE) za j (fun k l m=>h.le k q l m f i) p c g
theorem both {a mid b:Nat} {d d':Array α} (n:b<=d.size) (r:a<=mid) (s:mid<=b) (i:SortedIn t a mid d) (h:∀p q,a<=p->p<mid->mid<=q->q<b->t d[q]! d[p]! =yE) (g:PermIn mid b d d') (j:SortedIn t mid b d'):SortedIn t a b d':=by
 have lo:∀p,p<mid->d'[p]! =d[p]! :=fun p o=>g.2.1 p (.inl o);intro p q c e f;by_cases c1:q<mid
 ·rw[lo q c1,lo p za];exact i p q c e c1
 ·by_cases c2:p<mid
  ·rw[lo p c2];exact permIn_all d d' mid b (fun x=>t x d[p]! =yE) n g (fun k l m=>h p k c c2 l m) q za f
  ·exact j p q za e f
def Mul (s c:Nat):Prop:=∃k,c=k*s
theorem Mul.zero (s:Nat):Mul s 0:=⟨0,zm⟩
theorem Mul.next {s c:Nat} (h:Mul s c):Mul s (c+s):=by obtain⟨k,rfl⟩:=h;exact⟨k+1,by rw[qQt,qRn]⟩
theorem Mul.two {s c:Nat} (h:Mul (2*s) c):Mul s c:=by obtain⟨k,rfl⟩:=h;exact⟨k*2,by rw[qTc]⟩
theorem Mul.far {s c a:Nat} (h:Mul s c) (g:Mul s a) (b:c≠a):c+s<=a\/a+s<=c:=by
 obtain⟨k,rfl⟩:=h;obtain⟨l,rfl⟩:=g;rcases qP8 k l with h|h
 ·left;have:=qRp s h;rw[Nat.succ_mul]at this;omega
 ·rcases qP8 l k with h|h
  ·right;have:=qRp s h;rw[Nat.succ_mul]at this;omega
  ·exact absurd (by rw[show k=l by omega]) b
def Blk (t:α->α->Bool) (n s lo hi:Nat) (d:Array α):Prop:=∀c,Mul s c->lo<=c->c<hi->SortedIn t c (min (c+s) n) d
def Fst (I:α->Nat) (n s:Nat) (d:Array α):Prop:=∀c,Mul s c->∀p q,p<c->c<=q->q<n->I d[p]! <I d[q]!
theorem Fst.two {n s:Nat} {d:Array α} (h:Fst I n s d):Fst I n (2*s) d:=fun c a=>h c a.two
theorem Fst.perm {n s a b:Nat} {d d':Array α} (h:Fst I n s d) (w:Mul s a) (y:a<=b) (B:b<=a+s) (z:b<=n) (F:n<=d.size) (e:PermIn a b d d'):Fst I n s d':=by
 intro c f p q g i j;have m:b<=d.size:=za
 rcases qP8 a c with o|o
 ·have l:a+s<=c:=by rcases f.far w za with l|l<;>omega
  rw[e.2.1 q (.inr za)];by_cases c1:a<=p/\p<b
  ·exact permIn_all d d' a b (fun x=>I x<I d[q]!) m e (fun k r u=>h c f k q za i j) p c1.1 c1.2
  ·rw[e.2.1 p za];exact h c f p q g i j
 ·rw[e.2.1 p (.inl za)];by_cases c1:a<=q/\q<b
  ·exact permIn_all d d' a b (fun x=>I d[p]! <I x) m e (fun k r u=>h c f p k g za za) q c1.1 c1.2
  ·rw[e.2.1 q za];exact h c f p q g i j
theorem SortedIn.keep {a b:Nat} {d d':Array α} (h:SortedIn t a b d) (e:∀p,a<=p->p<b->d'[p]! =d[p]!):SortedIn t a b d':=by
 intro p q c g f;rw[e p c za,e q za f];exact h p q c g f
theorem Blk.more {n s a b:Nat} {d d':Array α} (h:Blk t n s 0 a d) (j:Mul s a) (r:0<s) (k:b=min (a+s) n) (l:PermIn a b d d') (hd:SortedIn t a b d'):Blk t n s 0 (a+s) d':=by
 intro c g i m;by_cases e:c=a
 ·subst e;rw[<-k];exact hd
 ·have o:c+s<=a:=by rcases g.far j e with f|f<;>omega
  exact SortedIn.keep (h c g i za) (fun p q f=>l.2.1 p (.inl za))
structure Lev (t:α->α->Bool) (I:α->Nat) (n s a:Nat) (d:Array α):Prop where
 mul:Mul (2*s) a
 fst:Fst I n (2*s) d
 fst1:∀c,Mul s c->∀p q,a<=p->p<c->c<=q->q<n->I d[p]! <I d[q]!
 two:Blk t n (2*s) 0 a d
 one:Blk t n s a n d
theorem Lev.start {n s:Nat} {d:Array α} (a:Fst I n s d) (e:Blk t n s 0 n d):Lev t I n s 0 d:=
 ⟨Mul.zero _,a.two,fun c b p q _ f g i=>a c b p q f g i,fun c b _ h=>za,e⟩
theorem Lev.pre {n s a b:Nat} {d:Array α} (h:Lev t I n s a d) (m:b=min (a+2*s) n) (o:a+s<=b) (r:0<s) (g:a+s<n):Pre t I a (a+s) b d:=by
 have c:=h.mul.two;have e:=h.one a c (qPq _) za;have f:=h.one (a+s) c.next za g
 rw[show min (a+s) n=a+s by omega]at e;rw[show min (a+s+s) n=b by omega]at f;exact⟨e,f,fun p q i j k l=>h.fst1 (a+s) c.next p q i j k za⟩
theorem Lev.more {n s a b:Nat} {d d':Array α} (h:Lev t I n s a d) (m:b=min (a+2*s) n) (j:a<=b) (u:0<s) (o:n<=d.size) (e:PermIn a b d d') (hd:SortedIn t a b d'):Lev t I n s (a+2*s) d':=by
 refine⟨h.mul.next,h.fst.perm h.mul j za za o e,fun c g p q k f l i=> ?_,h.two.more h.mul za m e hd,fun c g k f=> ?_⟩
 ·rw[e.2.1 p (.inr za),e.2.1 q (.inr za)];exact h.fst1 c g p q za f l i
 ·exact SortedIn.keep (h.one c g za f) (fun p i r=>e.2.1 p (.inr za))
theorem Lev.tail {n s a:Nat} {d:Array α} (h:Lev t I n s a d) (u:0<s) (r:n<=a+s):Lev t I n s (a+2*s) d:=by
 refine⟨h.mul.next,h.fst,fun c b p q f g k l=>za,fun c b f g=> ?_,fun c b f g=>za⟩;by_cases e:c=a
 ·subst e;by_cases j:c<n
  ·have:=h.one c h.mul.two (qPq _) j;rw[show min (c+s) n=n by omega]at this;rw[show min (c+2*s) n=n by omega];exact this
  ·intro p q i m o;omega
 ·have k:c+2*s<=a:=by rcases b.far h.mul e with i|i<;>omega
  exact h.two c b f za
theorem Lev.end_ {n s a:Nat} {d:Array α} (h:Lev t I n s a d) (g:n<=a):Fst I n (2*s) d/\Blk t n (2*s) 0 n d:=⟨h.fst,fun c e b f=>h.two c e b za⟩
theorem Blk.all {n s:Nat} {d:Array α} (h:Blk t n s 0 n d) (f:n<=s):SortedIn t 0 n d:=by
 by_cases a:0<n
 ·have:=h 0 (Mul.zero _) (qPq _) a;rw[show min (0+s) n=n by omega]at this;exact this
 ·intro p q b c e;omega
end St
namespace Bt
def mk8 (f:Nat->Bool):Nat:=(f 0).toNat*128+(f 1).toNat*64+(f 2).toNat*32+(f 3).toNat*16+(f 4).toNat*8+(f 5).toNat*4+(f 6).toNat*2+(f 7).toNat
theorem qFo (f:Nat->Bool):mk8 f<256:=by
 unfold mk8;have:∀b:Bool,b.toNat<=1:=z8
 have a:=this (f 0);have c:=this (f 1);have d:=this (f 2);have e:=this (f 3);have g:=this (f 4);have h:=this (f 5);have i:=this (f 6);have j:=this (f 7);omega
theorem zDv {f g:Nat->Bool} (h:∀j,j<8->f j=g j):mk8 f=mk8 g:=by
 unfold mk8;rw[h 0 za,h 1 za,h 2 za,h 3 za,h 4 za,h 5 za,h 6 za,h 7 za]
def zNi (a b c d e f g h:Bool):Nat:=a.toNat*128+b.toNat*64+c.toNat*32+d.toNat*16+e.toNat*8+f.toNat*4+g.toNat*2+h.toNat
def zU0 (a b c d e f g h:Bool):Nat->Bool
 |0=>a|1=>b|2=>c|3=>d|4=>e|5=>f|6=>g|7=>h|_=>false
theorem zXf (f:Nat->Bool):mk8 f=zNi (f 0) (f 1) (f 2) (f 3) (f 4) (f 5) (f 6) (f 7):=rfl
def zVm (x j:Nat):Bool:=x/2^(7-j)%2==1
theorem zVl:∀a b c d e f g h:Bool,∀j:Fin 8,zVm (zNi a b c d e f g h) j.val=zU0 a b c d e f g h j.val:=by decide+kernel
theorem qBi (f:Nat->Bool) (j:Nat) (a:j<8):zVm (mk8 f) j=f j:=by
 rw[zXf,zVl _ _ _ _ _ _ _ _ ⟨j,a⟩]
 match j,a with
 |0,_=>rfl
 |1,_=>rfl
 |2,_=>rfl
 |3,_=>rfl
 |4,_=>rfl
 |5,_=>rfl
 |6,_=>rfl
 |7,_=>rfl
def zCa (l:List Bool) (k:Nat):Nat:=mk8 fun j=>l.getD (k*8+j) yE
theorem zEo (l:List Bool) (k:Nat):zCa l k<256:=qFo _
def zA2 (n:Nat):Nat:=(n+7)/8
def pkL (l:List Bool):List UInt8:=(yK (zA2 (kG l))).map fun k=>UInt8.ofNat (zCa l k)
def pk (l:List Bool):ByteArray:=⟨(pkL l).toArray⟩
theorem zFe (l:List Bool):kG (pkL l)=zA2 (kG l):=by simp[pkL]
theorem zDu (l:List Bool):(pk l).size=zA2 (kG l):=by
 show(pkL l).toArray.size=_;rw[qQ0,zFe]
theorem ofNat_toNat {n:Nat} (h:n<256):(UInt8.ofNat n).toNat=n:=by
 rw[UInt8.toNat_ofNat',qRg h]
theorem zFz (l:List Bool) (k:Nat) (a:k<zA2 (kG l)):(pkL l)[k]? =qw (UInt8.ofNat (zCa l k)):=by
 simp[pkL,a]
def zBm (s:ByteArray) (i:Nat):Bool:=zVm (s.data.getD (i/8) 0).toNat (i%8)
theorem zGo (l:List Bool) (i:Nat) (hi:i<8*(pk l).size):zBm (pk l) i=l.getD i yE:=by
 rw[zDu]at hi;have a:i/8<zA2 (kG l):=za
 unfold zBm;have h:(pk l).data.getD (i/8) 0=UInt8.ofNat (zCa l (i/8)):=by
  show(pkL l).toArray.getD (i/8) 0=_;rw[qU,List.getElem?_toArray,zFz l _ a];rfl
 rw[h,ofNat_toNat (zEo _ _)];unfold zCa;rw[qBi _ _ (qRd _ za)];rw[show i/8*8+i%8=i by omega]
theorem zF5 (l:List Bool) (b:Bool) (i:Nat) (h:i<kG l):(l++[b]).getD i yE=l.getD i yE:=by
 simp[qPw,qR6 h]
theorem zI3 (l:List Bool) (b:Bool):(l++[b]).getD (kG l) yE=b:=by
 simp[qPw]
theorem zDe (l:List Bool) (i:Nat) (h:kG l<=i):l.getD i yE=yE:=by
 simp[qPw,qQp h]
theorem zMk (l:List Bool) (i:Nat):(l++[yE]).getD i yE=l.getD i yE:=by
 rcases qTn i (kG l) with h|h|h
 ·exact zF5 _ _ _ h
 ·rw[h,zI3,zDe _ _ (qPq _)]
 ·rw[zDe _ _ zq,zDe _ _ za]
theorem zCr (l:List Bool) (k:Nat):zCa (l++[yE]) k=zCa l k:=zDv fun j _=>zMk l _
theorem zW6 (l:List Bool):pkL (l++[yE])=if kG l%8=0 then pkL l++[0]else pkL l:=by
 unfold pkL;rw[qPx,qR7];simp only[zCr];split
 ·rename_i h
  have e:zA2 (kG l+1)=zA2 (kG l)+1:=by unfold zA2;omega
  rw[e,qQu,qQd];congr 1;have a:zCa l (zA2 (kG l))=0:=by
   have:zCa l (zA2 (kG l))=mk8 fun _=>yE:=zDv fun j b=>zDe _ _ (by unfold zA2;omega);rw[this];rfl
  simp[a]
 ·rename_i h
  have e:zA2 (kG l+1)=zA2 (kG l):=by unfold zA2;omega
  rw[e]
theorem zZ8:∀a b c d e f g h:Bool,∀j:Fin 8,zU0 a b c d e f g h j.val=yE->(zNi a b c d e f g h)|||(128>>>j.val)=mk8 (fun i=>if i=j.val then yD else zU0 a b c d e f g h i):=by decide+kernel
theorem qFn (f:Nat->Bool) (r:Nat) (a:r<8) (h:f r=yE):mk8 f|||(128>>>r)=mk8 (fun i=>if i=r then yD else f i):=by
 have e:∀i,i<8->zU0 (f 0) (f 1) (f 2) (f 3) (f 4) (f 5) (f 6) (f 7) i=f i:=by
  intro i hi
  match i,hi with
  |0,_=>rfl
  |1,_=>rfl
  |2,_=>rfl
  |3,_=>rfl
  |4,_=>rfl
  |5,_=>rfl
  |6,_=>rfl
  |7,_=>rfl
 rw[zXf,zZ8 _ _ _ _ _ _ _ _ ⟨r,a⟩ (by rw[e r a];exact h)];refine zDv fun i hi=> ?_;simp only;split
 ·rfl
 ·exact e i hi
theorem zZy (l:List Bool):pkL (l++[yD])=(pkL (l++[yE])).set (kG l/8) (UInt8.ofNat (zCa l (kG l/8)|||(128>>>(kG l%8)))):=by
 apply qRt;intro k;have g:zA2 (kG l+1)=kG l/8+1:=by unfold zA2;omega
 rw[qSv];have d:∀b,kG (pkL (l++[b]))=kG l/8+1:=by intro b;rw[zFe,qPx,qR7,g]
 rcases qP8 k (kG l/8+1)with c|c
 ·have a:∀b,k<zA2 (kG (l++[b])):=by intro b;rw[qPx,qR7,g];exact c
  rw[zFz _ _ (a yD),zFz _ _ (a yE),d];by_cases e:kG l/8=k
  ·subst e;rw[qPr rfl,qPr c];congr 2;unfold zCa;rw[qFn (fun j=>l.getD (kG l/8*8+j) yE) (kG l%8) (qRd _ za) (zDe _ _ za)];refine zDv fun j i=> ?_;by_cases f:j=kG l%8
   ·subst f;rw[show kG l/8*8+kG l%8=kG l by omega,zI3];simp
   ·simp only[f,if_false];rcases qP8 (kG l/8*8+j) (kG l) with h|h
    ·exact zF5 _ _ _ h
    ·rw[zDe _ _ h,zDe _ _ zq]
  ·rw[qPt e,zCr];congr 2;refine zDv fun j i=>zF5 _ _ _ za
 ·rw[qQp (by rw[d];exact c),d];rw[qPt za,qQp (by rw[d];exact c)]
def num (v n:Nat):List Bool:=(yK n).map fun i=>v.testBit (n-1-i)
theorem zAc (v n:Nat):kG (num v n)=n:=by simp[num]
def val (l:List Bool):Nat:=l.foldl (fun a b=>a*2+b.toNat) 0
theorem zEh (l:List Bool) (b:Bool):val (l++[b])=val l*2+b.toNat:=by simp[val]
theorem zJg:∀(l:List Bool) (a:Nat),l.foldl (fun a b=>a*2+b.toNat) a=a*2^kG l+val l
 |[],a=>by simp[val]
 |b::l,a=>by
  have h:val (b::l)=(0*2+b.toNat)*2^kG l+val l:=by rw[<-zJg l (0*2+b.toNat)];rfl
  rw[qTm,zJg l (a*2+b.toNat),h,qP3,qRq,qQt];simp[qTc,qRo,qR2]
theorem zKx (b:Bool) (l:List Bool):val (b::l)=b.toNat*2^kG l+val l:=by
 rw[val,qTm,zJg];simp
theorem val_append (l m:List Bool):val (l++m)=val l*2^kG m+val m:=by
 rw[val,qTe,zJg];rfl
theorem zEy:∀l:List Bool,val l<2^kG l
 |[]=>by simp[val]
 |b::l=>by
  have a:=zEy l;rw[zKx,qP3,qRq];cases b
  ·simp;omega
  ·simp;omega
theorem qAb (v n:Nat):num v (n+1)=num (v/2) n++[v.testBit 0]:=by
 unfold num;rw[qQu,qQd];congr 1
 ·refine qRx fun i hi=> ?_;have:=qQm.1 hi;rw[Nat.testBit_div_two];congr 1;omega
 ·simp
theorem zT (v n:Nat):val (num v n)=v%2^n:=by
 induction n generalizing v with
 |zero=>simp[num,val,Nat.mod_one]
 |succ n ih=>
  rw[qAb,zEh,ih,Nat.testBit_zero];have h:(yF (v%2=1)).toNat=v%2:=by
   rcases qT9 v with h|h<;>simp[h]
  rw[h,qRq];have a:=Nat.div_add_mod v 2;have b:=Nat.mod_mul_right_div_self;rw[qRo (2^n) 2,Nat.mod_mul];omega
end Bt
namespace Bt
theorem zBw {k:IntKind} {a b:Int} (h:a=b):Ending.returned (qV k a)=qp (qV k b):=by rw[h]
@[irreducible] def bv (b:Bool):Int:=if b then 128 else 0
theorem zNw:bv yD=128:=by unfold bv;rfl
theorem zRv:bv yE=0:=by unfold bv;rfl
theorem qCg (b:Bool):(bv b !=0)=b:=by cases b<;>simp[zNw,zRv]
theorem zNz:∀x:Fin 256,∀k:Fin 8,bits .and ql ((x.val:Int)*2^k.val%256) 128=if zVm x.val k.val then 128 else 0:=by decide+kernel
theorem zRf (s:ByteArray) (k:Nat) (h:k<s.size):s.data.getD k 0=s[k]:=by
 rw[qU];have a:k<s.data.size:=h;rw[qT2 a];rfl
theorem qEe (s:ByteArray) (i:Nat) (h:i/8<s.size):bits .and ql ((s[i/8].toNat:Int)*2^(i%8)%256) 128=bv (zBm s i):=by
 have a:=zNz ⟨s[i/8].toNat,qTf _⟩ ⟨i%8,qRd _ za⟩;rw[a];unfold zBm bv;rw[zRf s _ h]
theorem zNy (s:ByteArray) (i:Nat) (hi:i<8*s.size) (f:s.size<=1000000000) (w:qy):
  yC yG 104 #[qW s,qV qj (i:Int)] w fun e w'=>e=qp (qV ql (bv (zBm s i)))/\w=w':=by
 have a:i/8<s.size:=za
 have b:(i:Int).tdiv 8=((i/8:Nat):Int):=rfl;have c:(i:Int).tmod 8=((i%8:Nat):Int):=rfl;have d:i%8<8:=qRd _ za;have HB:=zH (qEe s i a);go_enter func104,ntmps104;go_wp2;go_ret;exact⟨zBw HB.out,rfl⟩
theorem qGf (s:ByteArray) (a:Int) (i:Nat) (e:a=(i:Int)) (hi:i<8*s.size) (b:s.size<=1000000000) (w:qy):
  yC yG 104 #[qW s,qV qj a] w fun e w'=>e=qp (qV ql (bv (zBm s i)))/\w=w':=by
 subst e;exact zNy s i hi b w
abbrev zAe (l:List Bool):qz:= .agg #[qW (pk l),qV qj (kG l:Int)]
theorem zGf (l:List Bool) (F:kG l<=1000000) (w:qy):
  yC yG 156 #[zAe l] w fun e w'=>e=qp (qc yD)/\yI w.heap.size w w':=by
 obtain⟨n,p⟩:=zB (kG l);obtain⟨d,hd⟩:=zB (pk l);have b:d.size=zA2 n:=by rw[<-hd,<-p,zDu]
 have s:∀i,n<=i->i<8*d.size->zBm d i=yE:=by
  intro i H t;rw[<-hd]at t⊢;rw[zGo l i t,zDe l i za]
 have y:=zH s;unfold zAe;rw[p,hd];rw[p]at F;unfold zA2 at b;have h:d.size<=1000000000:=za
 have c:((n:Int)%8=0/\((d.size:Int)!=(n:Int)/8)=yE)\/((n:Int)%8=1/\((d.size:Int)!=(n:Int)/8+1)=yE)\/((1<(n:Int)%8)/\((d.size:Int)!=(n:Int)/8+1)=yE):=by
  simp only[bne_eq_false_iff_eq];omega
 have k:=zH b;clear s b hd p;obtain⟨o,a⟩:=zB (w.alloc (qm #[qW d,qV qj (n:Int)] 51));have x:yI w.heap.size w o:=by rw[<-a];exact(yN _ _).alloc (qPq _) _
 obtain⟨B,u⟩:=zB w.heap.size;have c0:o.cell? ⟨B,0,qx⟩=qw (qW d):=by rw[<-a,<-u];simp
 have c1:o.cell? ⟨B,1,qx⟩=qw (qV qj (n:Int)):=by rw[<-a,<-u];simp
 have HB:=zH x;clear x;rcases c with⟨q,r⟩|⟨q,r⟩|⟨q,r⟩
 all_goals
  go_enter func156,ntmps156;go_wp2;clear q r;go_loopw [3] (fun i wr=>∃j:Nat,n<=j/\j<=8*d.size/\i=qV qj j/\o=wr) (fun i _=>8*d.size-(intOf i).toNat)
  case atStart=>exact⟨n,qPq _,by have:=k.out;omega,rfl,by first|rfl|exact a.symm⟩
  case round=>
   obtain⟨j,m,I,rfl,G⟩:=hrel;subst G;by_cases f:j<8*d.size
   ·obtain⟨z,g⟩:=yQ (y.out j m f) (zNy d j f h);go_wp2_with fail;(with_reducible refine(g.out _).mono ?_);rintro e w2 ⟨rfl,rfl⟩;have K:(bv (zBm d j)!=0)=yE:=by rw[z.out];exact qCg yE
    go_wp2;go_roundw
    case rel=>exact⟨j+1,za,za,by go_num,trivial⟩
    case measure=>simp[intOf];omega
   ·go_wp2;go_ret;exact⟨rfl,HB.out⟩
def take (s:ByteArray) (i n:Nat):List Bool:=(yK n).map fun j=>zBm s (i+j)
theorem take_length (s:ByteArray) (i n:Nat):kG (take s i n)=n:=by simp[take]
theorem zEz (s:ByteArray) (i n:Nat):take s i (n+1)=take s i n++[zBm s (i+n)]:=by
 unfold take;rw[qQu,qQd];rfl
theorem or_bit (v:Nat) (hv:v<9223372036854775808) (b:Bool):bits .or .u64 (IntKind.u64.wrap ((v:Int)*2)) (IntKind.u64.wrap (bv b/128))=((v*2+b.toNat:Nat):Int):=by
 have a:IntKind.u64.wrap ((v:Int)*2)=((v*2:Nat):Int):=by rw[qSh _ ⟨za,za⟩];omega
 have c:IntKind.u64.wrap (bv b/128)=((b.toNat:Nat):Int):=by cases b<;>simp[zNw,zRv]<;>exact qSh _ ⟨za,za⟩
 rw[a,c,u64_or_nat _ _ za (by cases b<;>simp)];congr 1;cases b
 ·simp
 ·show v*2|||1=v*2+1
  apply Nat.eq_of_testBit_eq;intro i;cases i with
  |zero=>simp[Nat.testBit_zero]
  |succ i=>rw[qR5,Nat.testBit_succ,Nat.testBit_succ,Nat.testBit_succ];simp;congr 1;omega
theorem zB7 (s:ByteArray) (i n:Nat) (q:n<=64) (hi:i+n<=8*s.size) (l:s.size<=1000000000) (w:qy):
  yC yG 32 #[qW s,qV qj (i:Int),qV qj (n:Int)] w fun e w'=>e=qp (qZ #[qV .u64 (val (take s i n):Nat),qV qj 0])/\w=w':=by
 have c:decide ((n:Int)<0)=yE:=qP1 za;have d:decide ((64:Int)<(n:Int))=yE:=qP1 za;have f:decide ((i:Int)<0)=yE:=qP1 za;have g:decide (8*(s.size:Int)-(n:Int)<(i:Int))=yE:=qP1 za;go_enter func32,ntmps32;go_wp2;clear c d f g;go_loopw [6,29] (fun v k wr=>∃j:Nat,j<=n/\k=qV qj j/\v=qV .u64 (val (take s i j):Nat)/\w=wr) (fun _ k _=>n-(intOf k).toNat)
 case atStart=>exact⟨0,za,rfl,rfl,rfl⟩
 case round=>
  obtain⟨j,p,rfl,rfl,m⟩:=hrel;subst m;by_cases o:j<n
  ·have a:=zH (qGf s ((i:Int)+(j:Int)) (i+j) za za l);go_wp2_with fail;(with_reducible refine(a.out _).mono ?_);rintro e w2 ⟨rfl,rfl⟩;have hv:val (take s i j)<9223372036854775808:=by
    have h:=zEy (take s i j);rw[take_length]at h;exact qQv h (qP4 (qR8 za (show j<=63 by omega)) z8)
   have b:=zH (or_bit _ hv (zBm s (i+j)));clear hv;go_wp2;go_roundw
   case rel=>exact⟨j+1,za,by go_num,by rw[b.out,zEz,zEh],trivial⟩
   case measure=>simp[intOf];omega
  ·obtain rfl:n=j:=za
   go_wp2;go_ret2;exact⟨rfl,rfl⟩
end Bt
namespace Kit
structure Cls (w:qy) where
 til:qy
 below:yI w.heap.size w til
instance (w:World):Nonempty (Cls w):=⟨⟨w,Below.refl _ _⟩⟩
def zAe (x:UInt8):qz:=qV ql (x.toNat:Int)
theorem zG (l:List UInt8):∀u∈l.map zAe,u.oneCell'=yD:=by
 intro u a;obtain⟨x,_,rfl⟩:=qQf.1 a;rfl
theorem Src.text {P:Program} {w:qy} {a:Option yB} {l:List UInt8} {n c:Nat} {src dst e:yA} (h:Src w a (l.map zAe)) (p:kG l=n)
  (i:P.underlying src=qw (.slice e)) (g:P.underlying e=qw (.int ql)) (hd:P.underlying dst=qw .string):
  (convert src dst (qX a n c)).run P w= .ok (qW ⟨l.toArray⟩) w:=by
 subst p;cases a with
 |none=>
  have o:l=[]:=by
   cases l with
   |nil=>rfl
   |cons x l=>obtain⟨b,d,f,_⟩:=h 0 (zAe x) rfl;cases f
  subst o;rw[run_convert_bytes_string w src dst e _ _ _ i g hd];simp[Conv.bytesToString];rfl
 |some y=>
  refine run_convert_bytes_back w src dst e y c l i g hd ?_;intro j m;obtain⟨b,d,f,k⟩:=h j (zAe l[j]) (by rw[qP2,qPu m];rfl);injection f with f
  subst f;rw[addr_add];exact k
end Kit
namespace Bt
variable {w w' U:qy} {B i n c R g:Nat} {u t e:yA} {v x:qz} {a:Option yB} {l:List Bool} {xs:List qz} {y:Operand} {P:Program} {ρ:Operand->qz} {o:Oper}
abbrev TB:yA:=5
abbrev TW:yA:=262
theorem zNh:Kit.One yG 109 TB 1:=⟨underlying109,qV ql 0,zf,rfl⟩
theorem setBlock {u:qz} (i:Nat) (h:w.heap[B]? =qw (qm #[u,v] t)):(w.setCell ⟨B,i,qx⟩ x).heap[B]? =qw (qm (#[u,v].setIfInBounds i x) t):=by
 simp[World.setCell,qQs,h]
theorem zAa {k:Nat} (h:k≠B):(w.setCell ⟨B,i,qx⟩ x).heap[k]? =w.heap[k]? :=by
 have b:B≠k:=fun e=>h e.symm;simp[World.setCell,qQs,b]
theorem zB1 (w:qy) (r i:Nat) (u:qz):w.grownBy (w.setCell ⟨r,i,qx⟩ u) (qw r):=
 ⟨rfl,rfl,rfl,zm,fun k b hne=>zAa (fun e=>hne (by rw[e]))⟩
theorem zD4 {r:Nat} {l:List qz} (h:yg w B e a n c l) (b:r<B) (u:qz):yg (w.setCell ⟨r,i,qx⟩ u) B e a n c l:=
 qRy h (zB1 w r i u) (.inr fun e=>by have:=h.block r e;omega)
theorem zAf {u:qz} (h:w.heap[B]? =qw (qm #[u,v] t)):w.cell? ⟨B,0,qx⟩=qw u/\w.cell? ⟨B,1,qx⟩=qw v/\w.frozen? ⟨B,0,qx⟩=yE/\w.frozen? ⟨B,1,qx⟩=yE:=by
 refine⟨by simp[yM,h],by simp[yM,h],by simp[World.frozen?,h],by simp[World.frozen?,h]⟩
structure Wr (w:qy) (R:Nat) (a:Option yB) (c:Nat) (l:List Bool):Prop where
 blk:w.heap[R]? =qw (qm #[qX a (kG (pkL l)) c,qV qj (kG l:Int)] TW)
 own:yg w (R+1) TB a (kG (pkL l)) c ((pkL l).map Kit.zAe)
theorem Wr.lt (h:Wr w R a c l):R<w.heap.size:=by
 rcases qP8 R w.heap.size with d|b
 ·exact d
 ·have:=h.blk;rw[qRj b]at this;cases this
structure Step (w w':qy) (R:Nat):Prop where
 old:∀k,k<w.heap.size->k≠R->(∀cs f,w.heap[k]?≠qw (qm cs TB f))->w'.heap[k]? =w.heap[k]?
 below:yI R w w'
theorem Step.refl (w:qy) (R:Nat):Step w w R:=⟨fun k _ _ _=>rfl,yN _ _⟩
theorem Step.trans {b:qy} (h:Step w w' R) (g:Step w' b R):Step w b R:=by
 refine⟨fun k d j m=> ?_,h.below.trans g.below⟩;have p:=h.old k d j m;rw[g.old k (qQv d h.below.size) j (fun q f=>by rw[p];exact m q f),p]
theorem Step.drew (h:Step w w' R):Step w w'.drew R:=⟨h.old,h.below.drew⟩
theorem zA (w:qy) (o:Obj):(w.alloc o).heap.size=w.heap.size+1:=by show(w.heap.push o).size=_;simp
theorem zLa (h:yg w B e (qw ⟨g,0,qx⟩) n c xs):∃b f,w.heap[g]? =qw (qm b e f):=by
 rcases h.2 with⟨d,_⟩|⟨g',k,m,hv,_,j,_⟩
 ·cases d
 ·injection hv with hv
  injection hv with hv
  injection hv with hv
  subst hv;exact⟨_,_,j⟩
theorem zZ7 (h:yg w B e a n c xs):∀k,a.map Addr.block=qw k->∃j f,w.heap[k]? =qw (qm j e f):=by
 intro k b;rcases h.2 with⟨d,_⟩|⟨g',p,q,hv,_,m,_⟩
 ·injection d with d
  subst d;cases b
 ·injection hv with hv
  subst hv;injection b with b
  have b:g'=k:=b;subst b;exact⟨_,_,m⟩
theorem zGj (h:yg w B e a n c xs):(Value.slice a n c).ownBlock=a.map Addr.block:=by
 cases a<;>rfl
theorem zTg:∀r:Fin 8,∀x:Fin 256,bits .or ql (x.val:Int) (128/2^r.val)=((x.val|||(128>>>r.val):Nat):Int):=by decide+kernel
structure Mid (U:qy) (R:Nat) (a:Option yB) (c:Nat) (l:List Bool):Prop where
 blk:U.heap[R]? =qw (qm #[qX a (kG l/8+1) c,qV qj (kG l:Int)] TW)
 own:yg U (R+1) TB a (kG l/8+1) c ((pkL (l++[yE])).map Kit.zAe)
theorem zGd (l:List Bool) (b:Bool):kG (pkL (l++[b]))=kG l/8+1:=by
 rw[zFe,qPx,qR7];unfold zA2;omega
theorem zQ8 (l:List Bool) (b:Bool):(kG (l++[b]):Int)=(kG l:Int)+1:=by rw[qPx];simp
theorem Mid.zero (h:Mid U R a c l):Wr (U.setCell ⟨R,1,qx⟩ (qV qj ((kG l:Int)+1))) R a c (l++[yE]):=by
 refine⟨?_,?_⟩
 ·rw[setBlock 1 h.blk,zGd,zQ8];rfl
 ·rw[zGd];exact zD4 h.own (qQ6 _) _
theorem Mid.one (h:Mid U R (qw ⟨g,0,qx⟩) c l) (x:Int) (j:x=((zCa l (kG l/8)|||(128>>>(kG l%8)):Nat):Int)):
  Wr ((U.setCell ⟨g,kG l/8,qx⟩ (qV ql x)).setCell ⟨R,1,qx⟩ (qV qj ((kG l:Int)+1))) R (qw ⟨g,0,qx⟩) c (l++[yD]):=by
 obtain⟨g',b,k,_,_,_,_⟩:=h.own.at_ (Nat.succ_pos _);injection b with b
 injection b with b
 subst b;refine⟨?_,?_⟩
 ·rw[setBlock 1 (u:=qX (qw ⟨g,0,qx⟩) (kG l/8+1) c) (v:=qV qj (kG l:Int)) (t:=TW) (by rw[zAa za];exact h.blk),zGd,zQ8];rfl
 ·rw[zGd];refine zD4 ?_ (qQ6 _) _;have d:=h.own.set (kG l/8) (qV ql x) (qQ6 _);rw[zZy,List.map_set];have e:Kit.zAe (UInt8.ofNat (zCa l (kG l/8)|||(128>>>(kG l%8))))=qV ql x:=by
   unfold Kit.zAe;rw[ofNat_toNat,j];have:=zEo l (kG l/8);have f:128>>>(kG l%8)<256:=by rw[qT3];exact Nat.lt_of_le_of_lt (Nat.div_le_self _ _) za
   exact Nat.or_lt_two_pow (n:=8) this f
  rw[e];exact d
theorem Step.one {y:qz} (h:yg U B TB (qw ⟨g,0,qx⟩) n c xs) (q:R<g):Step U ((U.setCell ⟨g,i,qx⟩ x).setCell ⟨R,1,qx⟩ y) R:=by
 refine⟨fun k p j b=> ?_,((yN R U).setCell (by show R<=g;omega) _).setCell (qPq _) _⟩;rw[zAa j,zAa (fun e=>by
  obtain⟨d,f,m⟩:=zLa h;rw[e]at b;exact b d f m)]
theorem Step.zero {y:qz}:Step U (U.setCell ⟨R,1,qx⟩ y) R:=
 ⟨fun k d b f=>zAa b,(yN R U).setCell (qPq _) _⟩
theorem Wr.drew (h:Wr U R a c l):Wr U.drew R a c l:=⟨h.blk,h.own⟩
theorem Mid.drew (h:Mid U R a c l):Mid U.drew R a c l:=⟨h.blk,h.own⟩
theorem qO7 {x:Operand} (b:o.op= .binOp .rem t x y u) (d:ρ x=qV qj (n:Int)) (f:ρ y=qV qj 8) (j:n<=1000000) (w:qy):(execOp ρ o).run P w= .ok (.value (qV qj ((n%8:Nat):Int))) w:=by
 have h:Int.tmod (n:Int) 8=((n%8:Nat):Int):=by rw[qSd za];rfl
 unfold execOp;simp[b,d,f,go_sem,h]
theorem qO8 {x:Operand} (f:o.op= .binOp .shr t x y u) (h:ρ x=qV ql 128) (j:ρ y=qV qj ((n%8:Nat):Int)) (w:qy):(execOp ρ o).run P w= .ok (.value (qV ql (128/2^(n%8)))) w:=by
 have b:(0:Int)<=(n:Int)%8:=za
 have d:((n:Int)%8).toNat=n%8:=za
 unfold execOp;simp[f,h,j,go_sem,b,d]
theorem qO9 {x:Operand} {X Z Y:Int} (d:o.op= .binOp .or t x y u) (f:ρ x=qV ql X) (h:ρ y=qV ql Z) (b:bits .or ql X Z=Y) (w:qy):(execOp ρ o).run P w= .ok (.value (qV ql Y)) w:=by
 subst b;unfold execOp;simp[d,f,h,go_sem]
theorem zPu (R:Nat) (a:Option yB) (c:Nat) (l:List Bool) (b:Bool) (w:qy) (hw:Wr w R a c l) (hl:kG l<=1000000):
  yC yG 157 #[qY (qw ⟨R,0,qx⟩),qc b] w fun e w'=>e=qp (qZ #[])/\∃a' c',Wr w' R a' c' (l++[b])/\Step w w' R:=by
 obtain⟨n,hn⟩:=zB (kG l);have hk:=zFe l;have hf:=zW6 l;obtain⟨k,a4⟩:=zB (kG (pkL l));have ad:=hw.lt;obtain⟨x0,x1,f0,f1⟩:=zAf hw.blk;have hB:=hw.blk;have hO:=hw.own;rw[a4]at x0 hB hO;rw[hn]at x1 hl hB;have M:k=zA2 n:=by rw[<-a4,hk,hn]
 unfold zA2 at M;have z:=zH hn;have ae:0<=(n:Int):=za
 have af:IntKind.i64.wrap ((n:Int)+1)=(n:Int)+1:=qQb _ ⟨za,za⟩;by_cases h8:n%8=0
 ·have hm:((n:Int)%8==0)=yD:=by rw[qSr];omega
  obtain⟨W1,L⟩:=zB (w.alloc (qm #[qV ql 0] TB));obtain⟨S,hS⟩:=zB w.heap.size;have ag:W1.heap.size=S+1:=by rw[<-L,zA,hS]
  have N:yg W1 (R+1) TB a k c ((pkL l).map Kit.zAe):=by rw[<-L];exact hO.alloc _
  obtain⟨a1,c1,w2,a3,a7,H⟩:=Kit.Own.app (ty:=109) (w:=W1) (n:=k) zNh N (qw ⟨S,0,qx⟩) 1 1 [qV ql 0] (by rw[<-L,<-hS];exact Kit.zAs w (qV ql 0) TB) rfl (fun h=>by cases h) (by intro u hu;simp at hu;subst hu;rfl) (by unfold maxLen;omega) za za;rw[zGj N]at H;have a6:a.map Addr.block≠qw R:=fun e=>by
   have:=hO.block R (by rw[zGj hO];exact e);omega
  have bw:yI S w W1:=by rw[<-L,<-hS];exact(yN _ _).alloc (qPq _) _
  have O:W1.heap[R]? =qw (qm #[qX a k c,qV qj (n:Int)] TW):=(bw.block R za).trans hB;have a0:w2.heap[R]? =qw (qm #[qX a k c,qV qj (n:Int)] TW):=(H.block R za (fun e=>a6 e.symm)).trans O;obtain⟨y0,y1,e0,e1⟩:=zAf O;obtain⟨z0,z1,d0,d1⟩:=zAf a0;obtain⟨U,hU⟩:=zB (w2.setCell ⟨R,0,qx⟩ (qX a1 (k+1) c1));have a5:U.heap[R]? =qw (qm #[qX a1 (k+1) c1,qV qj (n:Int)] TW):=by rw[<-hU];exact setBlock 0 a0
  have o:Mid U R a1 c1 l:=by
   refine⟨?_,?_⟩
   ·rw[a5,hn,show n/8+1=k+1 by omega]
   ·rw[hn,show n/8+1=k+1 by omega,hf,qPr (by rw[hn];exact h8),qQd,<-hU];exact zD4 a7 (qQ6 _) _
  have G:Step w U R:=by
   refine⟨fun q h1 h2 h3=> ?_,?_⟩
   ·rw[<-hU,zAa h2,H.block q za (fun e=> ?_),bw.block q za];obtain⟨cs,f,hc⟩:=zZ7 hO q e.symm;exact h3 cs f hc
   ·rw[<-hU];exact((bw.mono za).trans ((yN R W1).grown H za (fun q hq=>by have:=hO.block q (by rw[zGj hO];exact hq);omega))).setCell (qPq _) _
  obtain⟨v0,v1,t0,t1⟩:=zAf o.blk;rw[hn]at v0 v1;obtain⟨i,I⟩:=yQ o G;clear o G hk hf hB hO hw M N a7 H a6 bw O a0 a5;cases b with
  |false=>
   go_enter func157,ntmps157;go_wp2_with (at_builtin;refine Kit.zAr rfl (.tmp 14) (.tmp 15) 109 rfl rfl rfl a3 ?_);go_end0;exact⟨rfl,a1,c1,by have h:=i.out.zero;rwa[z.out]at h,I.out.trans Step.zero⟩
  |true=>
   obtain⟨g,a2,a9,a8,_,p,B⟩:=i.out.own.at_ (Nat.succ_pos _);obtain⟨m,j⟩:=zB (n/8);have d:U.cell? ⟨g,m,qx⟩=qw (qV ql ((zCa l m:Nat):Int)):=by
    rw[p m (by rw[z.out,j];exact qQ6 _),qP2,zFz _ _ (by rw[qPx,z.out,qR7];unfold zA2;omega),zCr];show qw (Kit.zAe _)=_;unfold Kit.zAe;rw[ofNat_toNat (zEo _ _)]
   have F:U.frozen? ⟨g,m,qx⟩=yE:=B m;rw[z.out,j]at p;rw[j]at v0;obtain⟨X,hX⟩:=zB (zCa l m);rw[hX]at d;have W:X<256:=by rw[<-hX];exact zEo _ _
   obtain⟨Y,hY⟩:=zB (bits .or ql (X:Int) (128/2^(n%8)));have s:Y=((X|||(128>>>(n%8)):Nat):Int):=by rw[<-hY];exact zTg ⟨n%8,qRd _ za⟩ ⟨X,W⟩
   obtain⟨HY,HX⟩:=yQ s hX;have r:R≠g:=za
   have ab:(0:Int)<=(m:Int):=za
   have aa:(m:Int)<((m+1:Nat):Int):=za
   have H8:=zH j;have ac:m<=1000000:=za
   subst a2;clear p B s hX j;go_enter func157,ntmps157;clear h8;have Z:=zH hY;have V:=yP (IntKind.i64.wrap (((m+1:Nat):Int)-1)=(m:Int)) (by rw[qQb _ ⟨za,za⟩];omega);obtain⟨LS,LN,LX,K⟩:=yS (yh (P:=yG) (t:=109) (w:=U.drew) v0 zf zf) (yh (P:=yG) (t:=3) (w:=U.drew) v1 zf zf) (yh (P:=yG) (t:=5) (w:=U.drew) d zf zf) (Kit.zDs (P:=yG) (t:=5) (w:=U.drew) (v:=qV ql Y) d F zf rfl rfl);clear hY;go_upto_region 3 with(at_builtin;refine Kit.zAr rfl (.tmp 14) (.tmp 15) 109 rfl rfl rfl a3 ?_);clear hm d F;refine zS [] (fun _=>True) [0,1,2,4,0,16,32,64,128,256,520,1024,0,4096,8192,16384,32768,65536,133120,524287,1048575] 21<|zp [0,1,2,3,4,5,6,7,8,9,10,11,12,13,14,15,16,17,18,19]<|zk 20 (zP R 0)<|zk 21 (zP R 0)<|zk 22 (zP R 0)<|zt 23 (qX (qw ⟨g,0,qx⟩) ((m+1:Nat)) c1) (zl 109 22 (LS.out))<|zk 24 (zP R 0)<|zk 25 (zP R 0)<|zk 26 (zP R 0)<|zt 27 (qX (qw ⟨g,0,qx⟩) ((m+1:Nat)) c1) (zl 109 26 (LS.out))<|zk 28 (qV qj ((m+1:Nat):Int))<|zt 29 (zI m) (Kit.zM6 (x:= .tmp 28) (y:= .const (qV qj 1)) (t:=3) (u:=3) zf zf zf V.out _)<|zt 30 (zP g m) (xM (t:=109) (x:= .tmp 23) (y:= .tmp 29) (g:=g) (n:=m+1) (c:=c1) (k:=m) zf zf zf (qQ6 _) underlying109 (fun _=>sizeOf5 _) _)<|zt 31 (qV ql (X:Int)) (zl 5 30 (LX.out))<|zk 32 (zP R 0)<|zk 33 (zP R 0)<|zk 34 (zP R 1)<|zt 35 (zI n) (zl 3 34 (LN.out))<|zt 36 (qV qj ((n%8:Nat):Int)) (qO7 (x:= .tmp 35) (y:= .const (qV qj 8)) (t:=3) (u:=3) zf zf zf hl _)<|zt 37 (qV ql (128/2^(n%8))) (qO8 (x:= .const (qV ql 128)) (y:= .tmp 36) (t:=5) (u:=3) zf zf zf _)<|zt 38 (qV ql Y) (qO9 (x:= .tmp 31) (y:= .tmp 37) (t:=5) (u:=5) zf zf zf Z.out _)<|zt 39 (zP g m) (xM (t:=109) (x:= .tmp 23) (y:= .tmp 29) (g:=g) (n:=m+1) (c:=c1) (k:=m) zf zf zf (qQ6 _) underlying109 (fun _=>sizeOf5 _) _)<|zn<|zw 20 qx (zr 5 39 38 (K.out)) (.inr (.inr trivial))<|zE<| ?_
   simp only[zP,zI,Act.put,qPz,qPy,qP0];have u0:(U.drew.setCell ⟨g,m,qx⟩ (qV ql Y)).cell? ⟨R,1,qx⟩=qw (qV qj (n:Int)):=(qRe (zAa r)).trans v1;have u1:(U.drew.setCell ⟨g,m,qx⟩ (qV ql Y)).frozen? ⟨R,1,qx⟩=yE:=(qTo (zAa r)).trans t1;go_wp2;go_end0;have h1:=i.out.one Y (by rw[z.out,H8.out,HX.out];exact HY.out);rw[z.out,H8.out]at h1;exact⟨rfl,_,_,h1.drew,(I.out.trans (Step.one i.out.own za)).drew⟩
 ·have hm:((n:Int)%8==0)=yE:=by rw[qSc];omega
  have o:Mid w R a c l:=by
   refine⟨?_,?_⟩
   ·rw[hB,hn,show n/8+1=k by omega]
   ·rw[hn,show n/8+1=k by omega,hf,qPt (by rw[hn];exact h8)];exact hO
  have G:=Step.refl w R;obtain⟨v0,v1,t0,t1⟩:=zAf o.blk;rw[hn]at v0 v1;obtain⟨i,I⟩:=yQ o G;clear o G hk hf hB hO hw M;cases b with
  |false=>
   go_enter func157,ntmps157;go_wp2_with (fail);go_end0;exact⟨rfl,a,c,by have h:=i.out.zero;rwa[z.out]at h,I.out.trans Step.zero⟩
  |true=>
   obtain⟨g,a2,a9,a8,_,p,B⟩:=i.out.own.at_ (Nat.succ_pos _);obtain⟨m,j⟩:=zB (n/8);have d:w.cell? ⟨g,m,qx⟩=qw (qV ql ((zCa l m:Nat):Int)):=by
    rw[p m (by rw[z.out,j];exact qQ6 _),qP2,zFz _ _ (by rw[qPx,z.out,qR7];unfold zA2;omega),zCr];show qw (Kit.zAe _)=_;unfold Kit.zAe;rw[ofNat_toNat (zEo _ _)]
   have F:w.frozen? ⟨g,m,qx⟩=yE:=B m;rw[z.out,j]at p;rw[j]at v0;obtain⟨X,hX⟩:=zB (zCa l m);rw[hX]at d;have W:X<256:=by rw[<-hX];exact zEo _ _
   obtain⟨Y,hY⟩:=zB (bits .or ql (X:Int) (128/2^(n%8)));have s:Y=((X|||(128>>>(n%8)):Nat):Int):=by rw[<-hY];exact zTg ⟨n%8,qRd _ za⟩ ⟨X,W⟩
   obtain⟨HY,HX⟩:=yQ s hX;have r:R≠g:=za
   have ab:(0:Int)<=(m:Int):=za
   have aa:(m:Int)<((m+1:Nat):Int):=za
   have H8:=zH j;have ac:m<=1000000:=za
   subst a2;clear p B s hX j;go_enter func157,ntmps157;clear h8;have Z:=zH hY;have V:=yP (IntKind.i64.wrap (((m+1:Nat):Int)-1)=(m:Int)) (by rw[qQb _ ⟨za,za⟩];omega);obtain⟨LS,LN,LX,K⟩:=yS (yh (P:=yG) (t:=109) (w:=w.drew) v0 zf zf) (yh (P:=yG) (t:=3) (w:=w.drew) v1 zf zf) (yh (P:=yG) (t:=5) (w:=w.drew) d zf zf) (Kit.zDs (P:=yG) (t:=5) (w:=w.drew) (v:=qV ql Y) d F zf rfl rfl);clear hY;go_upto_region 3 with(fail);clear hm d F;refine zS [] (fun _=>True) [0,1,2,4,0,16,32,64,128,256,520,1024,0,4096,8192,16384,32768,65536,133120,524287,1048575] 21<|zp [0,1,2,3,4,5,6,7,8,9,10,11,12,13,14,15,16,17,18,19]<|zk 20 (zP R 0)<|zk 21 (zP R 0)<|zk 22 (zP R 0)<|zt 23 (qX (qw ⟨g,0,qx⟩) ((m+1:Nat)) c) (zl 109 22 (LS.out))<|zk 24 (zP R 0)<|zk 25 (zP R 0)<|zk 26 (zP R 0)<|zt 27 (qX (qw ⟨g,0,qx⟩) ((m+1:Nat)) c) (zl 109 26 (LS.out))<|zk 28 (qV qj ((m+1:Nat):Int))<|zt 29 (zI m) (Kit.zM6 (x:= .tmp 28) (y:= .const (qV qj 1)) (t:=3) (u:=3) zf zf zf V.out _)<|zt 30 (zP g m) (xM (t:=109) (x:= .tmp 23) (y:= .tmp 29) (g:=g) (n:=m+1) (c:=c) (k:=m) zf zf zf (qQ6 _) underlying109 (fun _=>sizeOf5 _) _)<|zt 31 (qV ql (X:Int)) (zl 5 30 (LX.out))<|zk 32 (zP R 0)<|zk 33 (zP R 0)<|zk 34 (zP R 1)<|zt 35 (zI n) (zl 3 34 (LN.out))<|zt 36 (qV qj ((n%8:Nat):Int)) (qO7 (x:= .tmp 35) (y:= .const (qV qj 8)) (t:=3) (u:=3) zf zf zf hl _)<|zt 37 (qV ql (128/2^(n%8))) (qO8 (x:= .const (qV ql 128)) (y:= .tmp 36) (t:=5) (u:=3) zf zf zf _)<|zt 38 (qV ql Y) (qO9 (x:= .tmp 31) (y:= .tmp 37) (t:=5) (u:=5) zf zf zf Z.out _)<|zt 39 (zP g m) (xM (t:=109) (x:= .tmp 23) (y:= .tmp 29) (g:=g) (n:=m+1) (c:=c) (k:=m) zf zf zf (qQ6 _) underlying109 (fun _=>sizeOf5 _) _)<|zn<|zw 20 qx (zr 5 39 38 (K.out)) (.inr (.inr trivial))<|zE<| ?_
   simp only[zP,zI,Act.put,qPz,qPy,qP0];have u0:(w.drew.setCell ⟨g,m,qx⟩ (qV ql Y)).cell? ⟨R,1,qx⟩=qw (qV qj (n:Int)):=(qRe (zAa r)).trans v1;have u1:(w.drew.setCell ⟨g,m,qx⟩ (qV ql Y)).frozen? ⟨R,1,qx⟩=yE:=(qTo (zAa r)).trans t1;go_wp2;go_end0;have h1:=i.out.one Y (by rw[z.out,H8.out,HX.out];exact HY.out);rw[z.out,H8.out]at h1;exact⟨rfl,_,_,h1.drew,(I.out.trans (Step.one i.out.own za)).drew⟩
end Bt
end Go.Proofs.YtppnakkaljbmbaaGreatDoor
