/- Steps of a proof; no condition beyond what each states. -/
import Derived.Sort.LotA
import Derived.Test.YtppnakkaljbmbaaGreatDoorZU00
set_option linter.unusedVariables false
set_option linter.unusedSimpArgs false
set_option maxRecDepth 100000
set_option maxHeartbeats 8000000
namespace Go.Proofs.YtppnakkaljbmbaaGreatDoor
namespace St
open Go.Sort
variable {α:Type} [Inhabited α]
structure Ord (lt t:α->α->Bool) (I:α->Nat):Prop where
 swo:SWO t
 ask:∀x y,I x<I y->lt y x=t y x
variable {lt t:α->α->Bool} {I:α->Nat}
theorem zXr (h:Ord lt t I) (a:Nat):∀(j:Nat) (d:Array α),j<d.size->(∀k,a<=k->k<j->I d[k]! <I d[j]!)->insInner lt a j d=insInner t a j d
 |0,d,_,_=>rfl
 |j+1,d,hj,hk=>by
  unfold insInner
  by_cases haj:a<=j
  ·rw[h.ask _ _ (hk j haj (by omega))]
   split
   ·refine zXr h a j _ (by rw[size_swp];omega) (fun k h1 h2=> ?_)
    rw[swp_other _ _ _ _ (by omega) (by omega),swp_right _ _ _ (by omega)]
    exact hk k h1 (by omega)
   ·rfl
  ·rw[decide_eq_false (by omega),Bool.false_and,Bool.false_and,if_neg (by simp),if_neg (by simp)]
theorem zTy (h:Ord lt t I) (a b:Nat):∀(n i:Nat) (d:Array α),b-i=n->a<i->b<=d.size->SortedIn t a i d->(∀k' k,a<=k'->k'<k->i<=k->k<b->I d[k']! <I d[k]!)->insOuter lt a b i d=insOuter t a b i d
 |0,i,d,hn,hai,hb,_,_=>by rw[insOuter,if_neg (by omega),insOuter,if_neg (by omega)]
 |n+1,i,d,hn,hai,hb,hs,hk=>by
  have e1:insOuter lt a b i d=insOuter lt a b (i+1) (insInner lt a i d):=by rw[insOuter,if_pos (by omega)]
  have e2:insOuter t a b i d=insOuter t a b (i+1) (insInner t a i d):=by rw[insOuter,if_pos (by omega)]
  rw[e1,e2]
  rw[zXr h a i d (by omega) (fun k h1 h2=>hk k i h1 h2 (Nat.le_refl _) (by omega))]
  have h1:=insInner_spec h.swo swp_permIn permIn_refl permIn_trans a (i+1) i (Nat.lt_succ_self i) i d (by omega) (Nat.le_refl _) (by omega) ⟨fun p q hap hpq hqi _ hq=>hs p q hap hpq (by omega),fun q h1 h2=>by omega⟩
  refine zTy h a b n (i+1) _ (by omega) (by omega) (by rw[h1.1.1];exact hb) h1.2 (fun k' k h2 h3 h4 h5=> ?_)
  rw[h1.1.2.1 k (.inr h4)]
  by_cases hk':i+1<=k'
  ·rw[h1.1.2.1 k' (.inr hk')]
   exact hk k' k h2 h3 (by omega) h5
  ·exact permIn_all d _ a (i+1) (fun x=>I x<I d[k]!) (by omega) h1.1 (fun j h6 h7=>hk j k h6 (by omega) (by omega) h5) k' h2 (by omega)
theorem qAq (h:Ord lt t I) (d:Array α) (a b:Nat) (hab:a<=b) (hb:b<=d.size) (hk:∀k' k,a<=k'->k'<k->k<b->I d[k']! <I d[k]!):
  PermIn a b d (insertionSort lt d a b)/\SortedIn t a b (insertionSort lt d a b):=by
 have e:insertionSort lt d a b=insertionSort t d a b:=
  zTy h a b _ (a+1) d rfl (by omega) hb (fun i j h1 h2 h3=>by omega) (fun k' k h1 h2 h3 h4=>hk k' k h1 h2 h4)
 rw[e]
 exact insertionSort_holds h.swo d a b hab hb
structure Shl (d:Array α) (a k:Nat) (dk:Array α):Prop where
 perm:PermIn a (k+1) d dk
 left:∀q,a<=q->q<k->dk[q]! =d[q+1]!
 it:dk[k]! =d[a]!
theorem Shl.start (d:Array α) (a:Nat):Shl d a a d:=⟨permIn_refl _ _ _,fun q h1 h2=>by omega,rfl⟩
theorem Shl.step {d dk:Array α} {a k:Nat} (h:Shl d a k dk) (hak:a<=k) (hk:k+1<d.size):Shl d a (k+1) (swp dk k (k+1)):=by
 have hz:=h.perm.1
 refine⟨permIn_trans _ _ _ _ _ (permIn_mono _ _ _ _ _ _ (Nat.le_refl _) (Nat.le_succ _) (by omega) h.perm) (swp_permIn _ _ _ _ _ hak (by omega) (by omega) (by omega) (by omega)),fun q h1 h2=> ?_,?_⟩
 ·by_cases e:q=k
  ·subst e
   rw[swp_left _ _ _ (by omega) (by omega),h.perm.2.1 _ (.inr (Nat.le_refl _))]
  ·rw[swp_other _ _ _ _ e (by omega)]
   exact h.left q h1 (by omega)
 ·rw[swp_right _ _ _ (by omega)]
  exact h.it
structure Shr (d:Array α) (m k:Nat) (dk:Array α):Prop where
 perm:PermIn k (m+1) d dk
 right:∀q,k<q->q<=m->dk[q]! =d[q-1]!
 it:dk[k]! =d[m]!
theorem Shr.start (d:Array α) (m:Nat):Shr d m m d:=⟨permIn_refl _ _ _,fun q h1 h2=>by omega,rfl⟩
theorem Shr.step {d dk:Array α} {m k:Nat} (h:Shr d m (k+1) dk) (hkm:k+1<=m) (hm:m<d.size):Shr d m k (swp dk (k+1) k):=by
 have hz:=h.perm.1
 refine⟨permIn_trans _ _ _ _ _ (permIn_mono _ _ _ _ _ _ (Nat.le_succ _) (Nat.le_refl _) (by omega) h.perm) (swp_permIn _ _ _ _ _ (by omega) (by omega) (by omega) (by omega) (by omega)),fun q h1 h2=> ?_,?_⟩
 ·by_cases e:q=k+1
  ·subst e
   rw[swp_left _ _ _ (by omega) (by omega),h.perm.2.1 _ (.inl (by omega))]
   rfl
  ·rw[swp_other _ _ _ _ e (by omega)]
   exact h.right q (by omega) h2
 ·rw[swp_right _ _ _ (by omega)]
  exact h.it
structure Pre (t:α->α->Bool) (I:α->Nat) (a m b:Nat) (d:Array α):Prop where
 l:SortedIn t a m d
 r:SortedIn t m b d
 i:∀p q,a<=p->p<m->m<=q->q<b->I d[p]! <I d[q]!
theorem zZ9 (h:Ord lt t I) {d dk:Array α} {a b i:Nat} (hp:Pre t I a (a+1) b d) (hi:a+1<=i) (hib:i<=b) (hb:b<=d.size)
  (h1:∀q,a+1<=q->q<i->lt d[q]! d[a]! =true) (h2:i<b->lt d[i]! d[a]! =false) (hs:Shl d a (i-1) dk):PermIn a b d dk/\SortedIn t a b dk:=by
 have hz:=hs.perm.1
 have hpm:=permIn_mono _ _ _ _ _ _ (Nat.le_refl a) (show i-1+1<=b by omega) hb hs.perm
 refine⟨hpm,fun p q hap hpq hqb=> ?_⟩
 have up:∀q,i<=q->q<b->t d[q]! d[a]! =false:=by
  intro q hq hqb
  have e0:t d[i]! d[a]! =false:=by rw[<-h.ask _ _ (hp.i a i (Nat.le_refl _) (by omega) (by omega) (by omega))];exact h2 (by omega)
  by_cases e:q=i
  ·subst e;exact e0
  ·exact h.swo.ntrans _ _ _ (hp.r i q (by omega) (by omega) hqb) e0
 have dn:∀q,a+1<=q->q<i->t d[a]! d[q]! =false:=by
  intro q hq hqi
  refine h.swo.asymmA ?_
  rw[<-h.ask _ _ (hp.i a q (Nat.le_refl _) (by omega) (by omega) (by omega))];exact h1 q hq hqi
 by_cases c1:q<i-1
 ·rw[hs.left q (by omega) c1,hs.left p hap (by omega)]
  exact hp.r (p+1) (q+1) (by omega) (by omega) (by omega)
 ·by_cases c2:q=i-1
  ·subst c2
   rw[hs.it,hs.left p hap hpq]
   exact dn (p+1) (by omega) (by omega)
  ·rw[hs.perm.2.1 q (.inr (by omega))]
   by_cases c3:p<i-1
   ·rw[hs.left p hap c3]
    exact hp.r (p+1) q (by omega) (by omega) hqb
   ·by_cases c4:p=i-1
    ·subst c4
     rw[hs.it]
     exact up q (by omega) hqb
    ·rw[hs.perm.2.1 p (.inr (by omega))]
     exact hp.r p q (by omega) hpq hqb
theorem zXd (h:Ord lt t I) {d dk:Array α} {a m i:Nat} (hp:Pre t I a m (m+1) d) (hi:a<=i) (him:i<=m) (hb:m<d.size)
  (h1:∀q,a<=q->q<i->lt d[m]! d[q]! =false) (h2:i<m->lt d[m]! d[i]! =true) (hs:Shr d m i dk):PermIn a (m+1) d dk/\SortedIn t a (m+1) dk:=by
 have hz:=hs.perm.1
 have hpm:=permIn_mono _ _ _ _ _ _ hi (Nat.le_refl (m+1)) (by omega) hs.perm
 refine⟨hpm,fun p q hap hpq hqb=> ?_⟩
 have dn:∀q,a<=q->q<i->t d[m]! d[q]! =false:=by
  intro q hq hqi
  rw[<-h.ask _ _ (hp.i q m hq (by omega) (by omega) (by omega))];exact h1 q hq hqi
 have up:∀q,i<=q->q<m->t d[q]! d[m]! =false:=by
  intro q hq hqm
  have e0:t d[i]! d[m]! =false:=by
   refine h.swo.asymmA ?_
   rw[<-h.ask _ _ (hp.i i m hi (by omega) (by omega) (by omega))];exact h2 (by omega)
  by_cases e:q=i
  ·subst e;exact e0
  ·exact h.swo.ntrans _ _ _ (hp.l i q hi (by omega) hqm) e0
 by_cases c1:q<i
 ·rw[hs.perm.2.1 q (.inl c1),hs.perm.2.1 p (.inl (by omega))]
  exact hp.l p q hap hpq (by omega)
 ·by_cases c2:q=i
  ·subst c2
   rw[hs.it,hs.perm.2.1 p (.inl hpq)]
   exact dn p hap hpq
  ·rw[hs.right q (by omega) (by omega)]
   by_cases c3:p<i
   ·rw[hs.perm.2.1 p (.inl c3)]
    exact hp.l p (q-1) hap (by omega) (by omega)
   ·by_cases c4:p=i
    ·subst c4
     rw[hs.it]
     exact up (q-1) (by omega) (by omega)
    ·rw[hs.right p (by omega) (by omega)]
     exact hp.l (p-1) (q-1) (by omega) (by omega) (by omega)
structure Rot (d:Array α) (a m b:Nat) (d':Array α):Prop where
 perm:PermIn a b d d'
 l:∀q,a<=q->q<a+(b-m)->d'[q]! =d[q+(m-a)]!
 r:∀q,a+(b-m)<=q->q<b->d'[q]! =d[q-(b-m)]!
structure Mid (d:Array α) (a m b i j:Nat) (dk:Array α):Prop where
 perm:PermIn a b d dk
 out:∀d',PermIn a b d d'->(∀q,q<m-i\/m+j<=q->d'[q]! =dk[q]!)->(∀q,m-i<=q->q<m-i+j->d'[q]! =dk[q+i]!)->(∀q,m-i+j<=q->q<m+j->d'[q]! =dk[q-j]!)->Rot d a m b d'
theorem Mid.start (d:Array α) {a m b:Nat} (ham:a<=m) (hmb:m<=b):Mid d a m b (m-a) (b-m) d:=by
 refine⟨permIn_refl _ _ _,fun d' hp h1 h2 h3=>⟨hp,fun q ha hb=>h2 q (by omega) (by omega),fun q ha hb=>h3 q (by omega) (by omega)⟩⟩
structure Swr (d:Array α) (a b n:Nat) (d':Array α):Prop where
 size:d'.size=d.size
 out:∀q,¬(a<=q/\q<a+n)->¬(b<=q/\q<b+n)->d'[q]! =d[q]!
 l:∀q,q<n->d'[a+q]! =d[b+q]!
 r:∀q,q<n->d'[b+q]! =d[a+q]!
 perm:∀lo hi,lo<=a->b+n<=hi->hi<=d.size->PermIn lo hi d d'
theorem Swr.start (d:Array α) (a b:Nat):Swr d a b 0 d:=⟨rfl,fun _ _ _=>rfl,fun q h=>by omega,fun q h=>by omega,fun _ _ _ _ _=>permIn_refl _ _ _⟩
theorem Swr.step {d d':Array α} {a b n:Nat} (h:Swr d a b n d') (hab:a+n<b) (hb:b+n<d.size):Swr d a b (n+1) (swp d' (a+n) (b+n)):=by
 have hz:=h.size
 refine⟨by rw[size_swp];exact hz,fun q h1 h2=> ?_,fun q hq=> ?_,fun q hq=> ?_,fun lo hi h1 h2 h3=> ?_⟩
 ·rw[swp_other _ _ _ _ (by omega) (by omega)]
  exact h.out q (by omega) (by omega)
 ·by_cases e:q=n
  ·subst e
   rw[swp_left _ _ _ (by omega) (by omega)]
   exact h.out _ (by omega) (by omega)
  ·rw[swp_other _ _ _ _ (by omega) (by omega)]
   exact h.l q (by omega)
 ·by_cases e:q=n
  ·subst e
   rw[swp_right _ _ _ (by omega)]
   exact h.out _ (by omega) (by omega)
  ·rw[swp_other _ _ _ _ (by omega) (by omega)]
   exact h.r q (by omega)
 ·exact permIn_trans _ _ _ _ _ (h.perm lo hi h1 (by omega) h3) (swp_permIn _ _ _ _ _ (by omega) (by omega) (by omega) (by omega) (by omega))
theorem Mid.more {d dk d2:Array α} {a m b i j:Nat} (h:Mid d a m b i j dk) (hi:a<=m-i) (him:i<=m) (hj:m+j<=b) (hb:b<=d.size) (hij:j<i) (hs:Swr dk (m-i) m j d2):Mid d a m b (i-j) j d2:=by
 have hz:=h.perm.1
 refine⟨permIn_trans _ _ _ _ _ h.perm (hs.perm a b hi hj (by omega)),fun d' hp h1 h2 h3=>h.out d' hp (fun q hq=> ?_) (fun q ha hq=> ?_) (fun q ha hq=> ?_)⟩
 ·rw[h1 q (by omega)]
  exact hs.out q (by omega) (by omega)
 ·rw[h1 q (by omega)]
  have:=hs.l (q-(m-i)) (by omega)
  rw[show m-i+(q-(m-i))=q by omega,show m+(q-(m-i))=q+i by omega]at this
  exact this
 ·by_cases c:q<m-(i-j)+j
  ·rw[h2 q (by omega) c]
   have:=hs.r (q+(i-j)-m) (by omega)
   rw[show m+(q+(i-j)-m)=q+(i-j)by omega,show m-i+(q+(i-j)-m)=q-j by omega]at this
   exact this
  ·rw[h3 q (by omega) hq]
   exact hs.out (q-j) (by omega) (by omega)
theorem Mid.less {d dk d2:Array α} {a m b i j:Nat} (h:Mid d a m b i j dk) (hi:a<=m-i) (him:i<=m) (hj:m+j<=b) (hb:b<=d.size) (hij:i<j) (hs:Swr dk (m-i) (m+j-i) i d2):Mid d a m b i (j-i) d2:=by
 have hz:=h.perm.1
 refine⟨permIn_trans _ _ _ _ _ h.perm (hs.perm a b hi (by omega) (by omega)),fun d' hp h1 h2 h3=>h.out d' hp (fun q hq=> ?_) (fun q ha hq=> ?_) (fun q ha hq=> ?_)⟩
 ·rw[h1 q (by omega)]
  exact hs.out q (by omega) (by omega)
 ·by_cases c:q<m-i+(j-i)
  ·rw[h2 q ha c]
   exact hs.out (q+i) (by omega) (by omega)
  ·rw[h3 q (by omega) (by omega)]
   have:=hs.l (q-(j-i)-(m-i)) (by omega)
   rw[show m-i+(q-(j-i)-(m-i))=q-(j-i)by omega,show m+j-i+(q-(j-i)-(m-i))=q+i by omega]at this
   exact this
 ·rw[h1 q (by omega)]
  have:=hs.r (q-(m+j-i)) (by omega)
  rw[show m+j-i+(q-(m+j-i))=q by omega,show m-i+(q-(m+j-i))=q-j by omega]at this
  exact this
theorem Mid.last {d dk d2:Array α} {a m b i:Nat} (h:Mid d a m b i i dk) (hi:a<=m-i) (him:i<=m) (hj:m+i<=b) (hb:b<=d.size) (hs:Swr dk (m-i) m i d2):Rot d a m b d2:=by
 have hz:=h.perm.1
 refine h.out d2 (permIn_trans _ _ _ _ _ h.perm (hs.perm a b hi hj (by omega))) (fun q hq=>hs.out q (by omega) (by omega)) (fun q ha hq=> ?_) (fun q ha hq=> ?_)
 ·have:=hs.l (q-(m-i)) (by omega)
  rw[show m-i+(q-(m-i))=q by omega,show m+(q-(m-i))=q+i by omega]at this
  exact this
 ·have:=hs.r (q-m) (by omega)
  rw[show m+(q-m)=q by omega,show m-i+(q-m)=q-i by omega]at this
  exact this
structure Half (t:α->α->Bool) (I:α->Nat) (a s mid e b:Nat) (d:Array α):Prop where
 one:Pre t I a s mid d
 two:Pre t I mid e b d
 le:∀p q,a<=p->p<mid->mid<=q->q<b->t d[q]! d[p]! =false
theorem half (h:Ord lt t I) {d d':Array α} {a m b s e mid:Nat} (hp:Pre t I a m b d) (has:a<=s) (hsm:s<=m) (hme:m<=e) (heb:e<=b) (hb:b<=d.size) (hmid:s+e=mid+m)
  (h1:a<s->e<b->lt d[e]! d[s-1]! =false) (h2:s<m->m<e->lt d[e-1]! d[s]! =true) (hr:Rot d s m e d'):Half t I a s mid e b d':=by
 have lo:∀p,p<s->d'[p]! =d[p]! :=fun p hp=>hr.perm.2.1 p (.inl hp)
 have hi:∀p,e<=p->d'[p]! =d[p]! :=fun p hp=>hr.perm.2.1 p (.inr hp)
 have m1:∀p,s<=p->p<mid->d'[p]! =d[p+(m-s)]! :=fun p ha hq=>hr.l p ha (by omega)
 have m2:∀p,mid<=p->p<e->d'[p]! =d[p-(e-m)]! :=fun p ha hq=>hr.r p (by omega) hq
 have rl:∀p q,s<=p->p<m->m<=q->q<e->t d[p]! d[q]! =false:=by
  intro p q ha hpm hq hqe
  have e0:t d[s]! d[e-1]! =false:=by
   refine h.swo.asymmA ?_
   rw[<-h.ask _ _ (hp.i s (e-1) has (by omega) (by omega) (by omega))];exact h2 (by omega) (by omega)
  have e1:t d[p]! d[s]! =false:=by
   by_cases c:p=s
   ·subst c;exact h.swo.irrefl _
   ·exact hp.l s p has (by omega) hpm
  have e2:t d[e-1]! d[q]! =false:=by
   by_cases c:q=e-1
   ·subst c;exact h.swo.irrefl _
   ·exact hp.r q (e-1) hq (by omega) (by omega)
  exact h.swo.ntrans _ _ _ (h.swo.ntrans _ _ _ e1 e0) e2
 have lr:∀p q,a<=p->p<s->e<=q->q<b->t d[q]! d[p]! =false:=by
  intro p q ha hps hq hqb
  have e0:t d[e]! d[s-1]! =false:=by
   rw[<-h.ask _ _ (hp.i (s-1) e (by omega) (by omega) (by omega) (by omega))];exact h1 (by omega) (by omega)
  have e1:t d[q]! d[e]! =false:=by
   by_cases c:q=e
   ·subst c;exact h.swo.irrefl _
   ·exact hp.r e q (by omega) (by omega) hqb
  have e2:t d[s-1]! d[p]! =false:=by
   by_cases c:p=s-1
   ·subst c;exact h.swo.irrefl _
   ·exact hp.l p (s-1) ha (by omega) (by omega)
  exact h.swo.ntrans _ _ _ (h.swo.ntrans _ _ _ e1 e0) e2
 refine⟨⟨fun p q h3 h4 h5=> ?_,fun p q h3 h4 h5=> ?_,fun p q h3 h4 h5 h6=> ?_⟩,⟨fun p q h3 h4 h5=> ?_,fun p q h3 h4 h5=> ?_,fun p q h3 h4 h5 h6=> ?_⟩,fun p q h3 h4 h5 h6=> ?_⟩
 ·rw[lo p (by omega),lo q h5];exact hp.l p q h3 h4 (by omega)
 ·rw[m1 p h3 (by omega),m1 q (by omega) h5];exact hp.r _ _ (by omega) (by omega) (by omega)
 ·rw[lo p h4,m1 q h5 h6];exact hp.i _ _ h3 (by omega) (by omega) (by omega)
 ·rw[m2 p h3 (by omega),m2 q (by omega) h5];exact hp.l _ _ (by omega) (by omega) (by omega)
 ·rw[hi p h3,hi q (by omega)];exact hp.r _ _ (by omega) h4 h5
 ·rw[m2 p h3 h4,hi q h5];exact hp.i _ _ (by omega) (by omega) (by omega) h6
 ·by_cases c1:p<s
  ·rw[lo p c1]
   by_cases c2:q<e
   ·rw[m2 q h5 c2];exact hp.l _ _ h3 (by omega) (by omega)
   ·rw[hi q (by omega)];exact lr p q h3 c1 (by omega) h6
  ·rw[m1 p (by omega) h4]
   by_cases c2:q<e
   ·rw[m2 q h5 c2];exact rl _ _ (by omega) (by omega) (by omega) (by omega)
   ·rw[hi q (by omega)];exact hp.r _ _ (by omega) (by omega) h6
theorem Rot.none (d:Array α) {a m b:Nat} (h:a=m\/m=b) (ham:a<=m) (hmb:m<=b):Rot d a m b d:=by
 refine⟨permIn_refl _ _ _,fun q h1 h2=> ?_,fun q h1 h2=> ?_⟩
 ·rcases h with h|h
  ·rw[show q+(m-a)=q by omega]
  ·omega
 ·rcases h with h|h
  ·omega
  ·rw[show q-(b-m)=q by omega]
theorem Pre.done {a m b:Nat} {d:Array α} (h:Pre t I a m b d) (e:m<=a\/b<=m):SortedIn t a b d:=by
 intro p q h1 h2 h3
 rcases e with e|e
 ·exact h.r p q (by omega) h2 h3
 ·exact h.l p q h1 h2 (by omega)
theorem Half.first {a s mid e b:Nat} {d d':Array α} (h:Half t I a s mid e b d) (hb:b<=d.size) (ham:a<=mid) (hmb:mid<=b) (hme:mid<=e) (hp:PermIn a mid d d'):Pre t I mid e b d'/\∀p q,a<=p->p<mid->mid<=q->q<b->t d'[q]! d'[p]! =false:=by
 have hi:∀p,mid<=p->d'[p]! =d[p]! :=fun p hq=>hp.2.1 p (.inr hq)
 refine⟨⟨fun p q h1 h2 h3=> ?_,fun p q h1 h2 h3=> ?_,fun p q h1 h2 h3 h4=> ?_⟩,fun p q h1 h2 h3 h4=> ?_⟩
 ·rw[hi p h1,hi q (by omega)];exact h.two.l p q h1 h2 h3
 ·rw[hi p (by omega),hi q (by omega)];exact h.two.r p q h1 h2 h3
 ·rw[hi p h1,hi q (by omega)];exact h.two.i p q h1 h2 h3 h4
 ·rw[hi q h3]
  exact permIn_all d d' a mid (fun x=>t d[q]! x=false) (by omega) hp (fun k h5 h6=>h.le k q h5 h6 h3 h4) p h1 h2
theorem both {a mid b:Nat} {d d':Array α} (hb:b<=d.size) (ham:a<=mid) (hmb:mid<=b) (h1:SortedIn t a mid d) (hle:∀p q,a<=p->p<mid->mid<=q->q<b->t d[q]! d[p]! =false) (hp:PermIn mid b d d') (h2:SortedIn t mid b d'):SortedIn t a b d':=by
 have lo:∀p,p<mid->d'[p]! =d[p]! :=fun p hq=>hp.2.1 p (.inl hq)
 intro p q h3 h4 h5
 by_cases c1:q<mid
 ·rw[lo q c1,lo p (by omega)];exact h1 p q h3 h4 c1
 ·by_cases c2:p<mid
  ·rw[lo p c2]
   exact permIn_all d d' mid b (fun x=>t x d[p]! =false) hb hp (fun k h6 h7=>hle p k h3 c2 h6 h7) q (by omega) h5
  ·exact h2 p q (by omega) h4 h5
def Mul (s c:Nat):Prop:=∃k,c=k*s
theorem Mul.zero (s:Nat):Mul s 0:=⟨0,by simp⟩
theorem Mul.next {s c:Nat} (h:Mul s c):Mul s (c+s):=by obtain⟨k,rfl⟩:=h;exact⟨k+1,by rw[Nat.add_mul,Nat.one_mul]⟩
theorem Mul.two {s c:Nat} (h:Mul (2*s) c):Mul s c:=by obtain⟨k,rfl⟩:=h;exact⟨k*2,by rw[Nat.mul_assoc]⟩
theorem Mul.far {s c a:Nat} (h:Mul s c) (g:Mul s a) (hn:c≠a):c+s<=a\/a+s<=c:=by
 obtain⟨k,rfl⟩:=h
 obtain⟨l,rfl⟩:=g
 rcases Nat.lt_or_ge k l with h|h
 ·left
  have:=Nat.mul_le_mul_right s h
  rw[Nat.succ_mul]at this
  omega
 ·rcases Nat.lt_or_ge l k with h|h
  ·right
   have:=Nat.mul_le_mul_right s h
   rw[Nat.succ_mul]at this
   omega
  ·exact absurd (by rw[show k=l by omega]) hn
def Blk (t:α->α->Bool) (n s lo hi:Nat) (d:Array α):Prop:=∀c,Mul s c->lo<=c->c<hi->SortedIn t c (min (c+s) n) d
def Fst (I:α->Nat) (n s:Nat) (d:Array α):Prop:=∀c,Mul s c->∀p q,p<c->c<=q->q<n->I d[p]! <I d[q]!
theorem Fst.two {n s:Nat} {d:Array α} (h:Fst I n s d):Fst I n (2*s) d:=fun c hc=>h c hc.two
theorem Fst.perm {n s a b:Nat} {d d':Array α} (h:Fst I n s d) (ha:Mul s a) (hab:a<=b) (hbs:b<=a+s) (hbn:b<=n) (hn:n<=d.size) (hp:PermIn a b d d'):Fst I n s d':=by
 intro c hc p q h1 h2 h3
 have hb:b<=d.size:=by omega
 rcases Nat.lt_or_ge a c with h4|h4
 ·have h5:a+s<=c:=by rcases hc.far ha (by omega)with h5|h5<;>omega
  rw[hp.2.1 q (.inr (by omega))]
  by_cases c1:a<=p/\p<b
  ·exact permIn_all d d' a b (fun x=>I x<I d[q]!) hb hp (fun k h6 h7=>h c hc k q (by omega) h2 h3) p c1.1 c1.2
  ·rw[hp.2.1 p (by omega)]
   exact h c hc p q h1 h2 h3
 ·rw[hp.2.1 p (.inl (by omega))]
  by_cases c1:a<=q/\q<b
  ·exact permIn_all d d' a b (fun x=>I d[p]! <I x) hb hp (fun k h6 h7=>h c hc p k h1 (by omega) (by omega)) q c1.1 c1.2
  ·rw[hp.2.1 q (by omega)]
   exact h c hc p q h1 h2 h3
theorem SortedIn.keep {a b:Nat} {d d':Array α} (h:SortedIn t a b d) (e:∀p,a<=p->p<b->d'[p]! =d[p]!):SortedIn t a b d':=by
 intro p q h1 h2 h3
 rw[e p h1 (by omega),e q (by omega) h3]
 exact h p q h1 h2 h3
theorem Blk.more {n s a b:Nat} {d d':Array α} (h:Blk t n s 0 a d) (ha:Mul s a) (hs:0<s) (hb:b=min (a+s) n) (hp:PermIn a b d d') (hd:SortedIn t a b d'):Blk t n s 0 (a+s) d':=by
 intro c hc h1 h2
 by_cases e:c=a
 ·subst e;rw[<-hb];exact hd
 ·have h3:c+s<=a:=by rcases hc.far ha e with h5|h5<;>omega
  exact SortedIn.keep (h c hc h1 (by omega)) (fun p h4 h5=>hp.2.1 p (.inl (by omega)))
structure Lev (t:α->α->Bool) (I:α->Nat) (n s a:Nat) (d:Array α):Prop where
 mul:Mul (2*s) a
 fst:Fst I n (2*s) d
 fst1:∀c,Mul s c->∀p q,a<=p->p<c->c<=q->q<n->I d[p]! <I d[q]!
 two:Blk t n (2*s) 0 a d
 one:Blk t n s a n d
theorem Lev.start {n s:Nat} {d:Array α} (h1:Fst I n s d) (h2:Blk t n s 0 n d):Lev t I n s 0 d:=
 ⟨Mul.zero _,h1.two,fun c hc p q _ h3 h4 h5=>h1 c hc p q h3 h4 h5,fun c hc _ h=>by omega,h2⟩
theorem Lev.pre {n s a b:Nat} {d:Array α} (h:Lev t I n s a d) (hb:b=min (a+2*s) n) (hm:a+s<=b) (hs:0<s) (hb2:a+s<n):Pre t I a (a+s) b d:=by
 have m1:=h.mul.two
 have e1:=h.one a m1 (Nat.le_refl _) (by omega)
 have e2:=h.one (a+s) m1.next (by omega) hb2
 rw[show min (a+s) n=a+s by omega]at e1
 rw[show min (a+s+s) n=b by omega]at e2
 exact⟨e1,e2,fun p q h1 h2 h3 h4=>h.fst1 (a+s) m1.next p q h1 h2 h3 (by omega)⟩
theorem Lev.more {n s a b:Nat} {d d':Array α} (h:Lev t I n s a d) (hb:b=min (a+2*s) n) (hab:a<=b) (hs:0<s) (hn:n<=d.size) (hp:PermIn a b d d') (hd:SortedIn t a b d'):Lev t I n s (a+2*s) d':=by
 refine⟨h.mul.next,h.fst.perm h.mul hab (by omega) (by omega) hn hp,fun c hc p q h1 h2 h3 h4=> ?_,h.two.more h.mul (by omega) hb hp hd,fun c hc h1 h2=> ?_⟩
 ·rw[hp.2.1 p (.inr (by omega)),hp.2.1 q (.inr (by omega))]
  exact h.fst1 c hc p q (by omega) h2 h3 h4
 ·exact SortedIn.keep (h.one c hc (by omega) h2) (fun p h4 h5=>hp.2.1 p (.inr (by omega)))
theorem Lev.tail {n s a:Nat} {d:Array α} (h:Lev t I n s a d) (hs:0<s) (ha:n<=a+s):Lev t I n s (a+2*s) d:=by
 refine⟨h.mul.next,h.fst,fun c hc p q h1 h2 h3 h4=>by omega,fun c hc h1 h2=> ?_,fun c hc h1 h2=>by omega⟩
 by_cases e:c=a
 ·subst e
  by_cases e2:c<n
  ·have:=h.one c h.mul.two (Nat.le_refl _) e2
   rw[show min (c+s) n=n by omega]at this
   rw[show min (c+2*s) n=n by omega]
   exact this
  ·intro p q h5 h6 h7;omega
 ·have h3:c+2*s<=a:=by rcases hc.far h.mul e with h5|h5<;>omega
  exact h.two c hc h1 (by omega)
theorem Lev.end_ {n s a:Nat} {d:Array α} (h:Lev t I n s a d) (ha:n<=a):Fst I n (2*s) d/\Blk t n (2*s) 0 n d:=⟨h.fst,fun c hc h1 h2=>h.two c hc h1 (by omega)⟩
theorem Blk.all {n s:Nat} {d:Array α} (h:Blk t n s 0 n d) (hs:n<=s):SortedIn t 0 n d:=by
 by_cases h0:0<n
 ·have:=h 0 (Mul.zero _) (Nat.le_refl _) h0
  rw[show min (0+s) n=n by omega]at this
  exact this
 ·intro p q h1 h2 h3;omega
end St
namespace Bt
def mk8 (f:Nat->Bool):Nat:=(f 0).toNat*128+(f 1).toNat*64+(f 2).toNat*32+(f 3).toNat*16+(f 4).toNat*8+(f 5).toNat*4+(f 6).toNat*2+(f 7).toNat
theorem qFo (f:Nat->Bool):mk8 f<256:=by
 unfold mk8
 have:∀b:Bool,b.toNat<=1:=by decide
 have h0:=this (f 0);have h1:=this (f 1);have h2:=this (f 2);have h3:=this (f 3);have h4:=this (f 4);have h5:=this (f 5);have h6:=this (f 6);have h7:=this (f 7)
 omega
theorem zDv {f g:Nat->Bool} (h:∀j,j<8->f j=g j):mk8 f=mk8 g:=by
 unfold mk8
 rw[h 0 (by omega),h 1 (by omega),h 2 (by omega),h 3 (by omega),h 4 (by omega),h 5 (by omega),h 6 (by omega),h 7 (by omega)]
def zNi (a b c d e f g h:Bool):Nat:=a.toNat*128+b.toNat*64+c.toNat*32+d.toNat*16+e.toNat*8+f.toNat*4+g.toNat*2+h.toNat
def zU0 (a b c d e f g h:Bool):Nat->Bool
 |0=>a|1=>b|2=>c|3=>d|4=>e|5=>f|6=>g|7=>h|_=>false
theorem zXf (f:Nat->Bool):mk8 f=zNi (f 0) (f 1) (f 2) (f 3) (f 4) (f 5) (f 6) (f 7):=rfl
def zVm (x j:Nat):Bool:=x/2^(7-j)%2==1
theorem zVl:∀a b c d e f g h:Bool,∀j:Fin 8,zVm (zNi a b c d e f g h) j.val=zU0 a b c d e f g h j.val:=by decide+kernel
theorem qBi (f:Nat->Bool) (j:Nat) (hj:j<8):zVm (mk8 f) j=f j:=by
 rw[zXf,zVl _ _ _ _ _ _ _ _ ⟨j,hj⟩]
 match j,hj with
 |0,_=>rfl
 |1,_=>rfl
 |2,_=>rfl
 |3,_=>rfl
 |4,_=>rfl
 |5,_=>rfl
 |6,_=>rfl
 |7,_=>rfl
def zCa (l:List Bool) (k:Nat):Nat:=mk8 fun j=>l.getD (k*8+j) false
theorem zEo (l:List Bool) (k:Nat):zCa l k<256:=qFo _
def zA2 (n:Nat):Nat:=(n+7)/8
def pkL (l:List Bool):List UInt8:=(List.range (zA2 l.length)).map fun k=>UInt8.ofNat (zCa l k)
def pk (l:List Bool):ByteArray:=⟨(pkL l).toArray⟩
theorem zFe (l:List Bool):(pkL l).length=zA2 l.length:=by simp[pkL]
theorem zDu (l:List Bool):(pk l).size=zA2 l.length:=by
 show(pkL l).toArray.size=_
 rw[List.size_toArray,zFe]
theorem ofNat_toNat {n:Nat} (h:n<256):(UInt8.ofNat n).toNat=n:=by
 rw[UInt8.toNat_ofNat',Nat.mod_eq_of_lt h]
theorem zFz (l:List Bool) (k:Nat) (hk:k<zA2 l.length):(pkL l)[k]? =some (UInt8.ofNat (zCa l k)):=by
 simp[pkL,hk]
def zBm (s:ByteArray) (i:Nat):Bool:=zVm (s.data.getD (i/8) 0).toNat (i%8)
theorem zGo (l:List Bool) (i:Nat) (hi:i<8*(pk l).size):zBm (pk l) i=l.getD i false:=by
 rw[zDu]at hi
 have hk:i/8<zA2 l.length:=by omega
 unfold zBm
 have h:(pk l).data.getD (i/8) 0=UInt8.ofNat (zCa l (i/8)):=by
  show(pkL l).toArray.getD (i/8) 0=_
  rw[Array.getD_eq_getD_getElem?,List.getElem?_toArray,zFz l _ hk]
  rfl
 rw[h,ofNat_toNat (zEo _ _)]
 unfold zCa
 rw[qBi _ _ (Nat.mod_lt _ (by omega))]
 rw[show i/8*8+i%8=i by omega]
theorem zF5 (l:List Bool) (b:Bool) (i:Nat) (h:i<l.length):(l++[b]).getD i false=l.getD i false:=by
 simp[List.getD_eq_getElem?_getD,List.getElem?_append_left h]
theorem zI3 (l:List Bool) (b:Bool):(l++[b]).getD l.length false=b:=by
 simp[List.getD_eq_getElem?_getD]
theorem zDe (l:List Bool) (i:Nat) (h:l.length<=i):l.getD i false=false:=by
 simp[List.getD_eq_getElem?_getD,List.getElem?_eq_none h]
theorem zMk (l:List Bool) (i:Nat):(l++[false]).getD i false=l.getD i false:=by
 rcases Nat.lt_trichotomy i l.length with h|h|h
 ·exact zF5 _ _ _ h
 ·rw[h,zI3,zDe _ _ (Nat.le_refl _)]
 ·rw[zDe _ _ (by simp;omega),zDe _ _ (by omega)]
theorem zCr (l:List Bool) (k:Nat):zCa (l++[false]) k=zCa l k:=zDv fun j _=>zMk l _
theorem zW6 (l:List Bool):pkL (l++[false])=if l.length%8=0 then pkL l++[0]else pkL l:=by
 unfold pkL
 rw[List.length_append,List.length_singleton]
 simp only[zCr]
 split
 ·rename_i h
  have e:zA2 (l.length+1)=zA2 l.length+1:=by unfold zA2;omega
  rw[e,List.range_succ,List.map_append]
  congr 1
  have hz:zCa l (zA2 l.length)=0:=by
   have:zCa l (zA2 l.length)=mk8 fun _=>false:=zDv fun j hj=>zDe _ _ (by unfold zA2;omega)
   rw[this];rfl
  simp[hz]
 ·rename_i h
  have e:zA2 (l.length+1)=zA2 l.length:=by unfold zA2;omega
  rw[e]
theorem zZ8:∀a b c d e f g h:Bool,∀j:Fin 8,zU0 a b c d e f g h j.val=false->(zNi a b c d e f g h)|||(128>>>j.val)=mk8 (fun i=>if i=j.val then true else zU0 a b c d e f g h i):=by decide+kernel
theorem qFn (f:Nat->Bool) (r:Nat) (hr:r<8) (h:f r=false):mk8 f|||(128>>>r)=mk8 (fun i=>if i=r then true else f i):=by
 have e:∀i,i<8->zU0 (f 0) (f 1) (f 2) (f 3) (f 4) (f 5) (f 6) (f 7) i=f i:=by
  intro i hi
  match i,hi with
  |0,_=>rfl
  |1,_=>rfl
  |2,_=>rfl
  |3,_=>rfl
  |4,_=>rfl
  |5,_=>rfl
  |6,_=>rfl
  |7,_=>rfl
 rw[zXf,zZ8 _ _ _ _ _ _ _ _ ⟨r,hr⟩ (by rw[e r hr];exact h)]
 refine zDv fun i hi=> ?_
 simp only
 split
 ·rfl
 ·exact e i hi
theorem zZy (l:List Bool):pkL (l++[true])=(pkL (l++[false])).set (l.length/8) (UInt8.ofNat (zCa l (l.length/8)|||(128>>>(l.length%8)))):=by
 apply List.ext_getElem?
 intro k
 have hs:zA2 (l.length+1)=l.length/8+1:=by unfold zA2;omega
 rw[List.getElem?_set]
 have hl:∀b,(pkL (l++[b])).length=l.length/8+1:=by intro b;rw[zFe,List.length_append,List.length_singleton,hs]
 rcases Nat.lt_or_ge k (l.length/8+1)with hk|hk
 ·have hk':∀b,k<zA2 (l++[b]).length:=by intro b;rw[List.length_append,List.length_singleton,hs];exact hk
  rw[zFz _ _ (hk' true),zFz _ _ (hk' false),hl]
  by_cases e:l.length/8=k
  ·subst e
   rw[if_pos rfl,if_pos hk]
   congr 2
   unfold zCa
   rw[qFn (fun j=>l.getD (l.length/8*8+j) false) (l.length%8) (Nat.mod_lt _ (by omega)) (zDe _ _ (by omega))]
   refine zDv fun j hj=> ?_
   by_cases ej:j=l.length%8
   ·subst ej
    rw[show l.length/8*8+l.length%8=l.length by omega,zI3]
    simp
   ·simp only[ej,if_false]
    rcases Nat.lt_or_ge (l.length/8*8+j) l.length with h|h
    ·exact zF5 _ _ _ h
    ·rw[zDe _ _ h,zDe _ _ (by simp;omega)]
  ·rw[if_neg e,zCr]
   congr 2
   refine zDv fun j hj=>zF5 _ _ _ (by omega)
 ·rw[List.getElem?_eq_none (by rw[hl];exact hk),hl]
  rw[if_neg (by omega),List.getElem?_eq_none (by rw[hl];exact hk)]
def num (v n:Nat):List Bool:=(List.range n).map fun i=>v.testBit (n-1-i)
theorem zAc (v n:Nat):(num v n).length=n:=by simp[num]
def val (l:List Bool):Nat:=l.foldl (fun a b=>a*2+b.toNat) 0
theorem zEh (l:List Bool) (b:Bool):val (l++[b])=val l*2+b.toNat:=by simp[val]
theorem zJg:∀(l:List Bool) (a:Nat),l.foldl (fun a b=>a*2+b.toNat) a=a*2^l.length+val l
 |[],a=>by simp[val]
 |b::l,a=>by
  have h:val (b::l)=(0*2+b.toNat)*2^l.length+val l:=by rw[<-zJg l (0*2+b.toNat)];rfl
  rw[List.foldl_cons,zJg l (a*2+b.toNat),h,List.length_cons,Nat.pow_succ,Nat.add_mul]
  simp[Nat.mul_assoc,Nat.mul_comm,Nat.add_assoc]
theorem zKx (b:Bool) (l:List Bool):val (b::l)=b.toNat*2^l.length+val l:=by
 rw[val,List.foldl_cons,zJg]
 simp
theorem val_append (l m:List Bool):val (l++m)=val l*2^m.length+val m:=by
 rw[val,List.foldl_append,zJg]
 rfl
theorem zEy:∀l:List Bool,val l<2^l.length
 |[]=>by simp[val]
 |b::l=>by
  have ih:=zEy l
  rw[zKx,List.length_cons,Nat.pow_succ]
  cases b
  ·simp;omega
  ·simp;omega
theorem qAb (v n:Nat):num v (n+1)=num (v/2) n++[v.testBit 0]:=by
 unfold num
 rw[List.range_succ,List.map_append]
 congr 1
 ·refine List.map_congr_left fun i hi=> ?_
  have:=List.mem_range.1 hi
  rw[Nat.testBit_div_two]
  congr 1
  omega
 ·simp
theorem zT (v n:Nat):val (num v n)=v%2^n:=by
 induction n generalizing v with
 |zero=>simp[num,val,Nat.mod_one]
 |succ n ih=>
  rw[qAb,zEh,ih,Nat.testBit_zero]
  have h:(decide (v%2=1)).toNat=v%2:=by
   rcases Nat.mod_two_eq_zero_or_one v with h|h<;>simp[h]
  rw[h,Nat.pow_succ]
  have h1:=Nat.div_add_mod v 2
  have h2:=Nat.mod_mul_right_div_self
  rw[Nat.mul_comm (2^n) 2,Nat.mod_mul]
  omega
end Bt
end Go.Proofs.YtppnakkaljbmbaaGreatDoor
