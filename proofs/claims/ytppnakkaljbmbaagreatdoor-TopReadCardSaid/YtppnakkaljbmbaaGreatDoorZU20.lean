/- Steps of a proof; no condition beyond what each states. -/
import Derived.Deep.DeepCutAuto
import Derived.Test.YtppnakkaljbmbaaGreatDoorZU19
set_option linter.unusedVariables false
set_option linter.unusedSimpArgs false
set_option maxRecDepth 100000
set_option maxHeartbeats 8000000
namespace Go.Proofs.YtppnakkaljbmbaaGreatDoor
namespace St
open Go.RowKit Go.Lib Go.Sort Go.Proofs
variable {α:Type} [Inhabited α]
theorem zUk (enc:α->Value) (cf:α->α->Int) {t:α->α->Bool} {I:α->Nat} (ho:Ord (ltOf cf) t I) (g:Nat) (cb:Array Value) (blk off cap a m:Nat) (d0 d:Array α) (w0 w:World) (eg:∀args w,(callFunc g args).run Tryz.prog w= .ok (.enter g args) w)
  (hcmp:CmpLays1 Tryz.prog g cb enc cf blk off d0.size w0) (R:Row1 enc w0 blk off d0) (hs:d0.size=d.size) (S:SW enc w0 blk off d w) (hab:a+1<m) (hb:m<d.size) (hsz:d.size<1000000000) (hp:Pre t I a m (m+1) d):
  Calls Tryz.prog 282 #[.slice (some ⟨blk,off,none⟩) d.size cap,.int .i64 (a:Int),.int .i64 (m:Int),.int .i64 ((m+1:Nat):Int),.func (.func g) #[] cb] w fun e w'=>e= .returned (.tuple #[])/\∃d',(PermIn a (m+1) d d'/\SortedIn t a (m+1) d')/\SW enc w0 blk off d' w':=by
 have hcl0:=R.hO.cells
 simp only[Value.cells]at hcl0
 have hst:=R.hO.store Tryz.prog
 have mixed:Tryz.prog.follows .mixedOrders=true:=by kernel_rfl
 have S0:Aside (SW enc w0 blk off d w):=S
 have HC:=zH hcmp
 have HP:=zH hp
 have HO:=zH ho
 obtain⟨b,hbm⟩:=zB (m+1)
 have z1:(((m:Int)-(a:Int))==1)=false:=by rw[beq_eq_false_iff_ne];omega
 have z2:(((b:Int)-(m:Int))==1)=true:=by simp;omega
 clear S hcmp hp ho
 rw[hbm]
 have HB:=zH hbm
 have hmb:m<b:=by omega
 have hmb2:b<=m+1:=by omega
 clear hbm
 go_enter Tryz.func282,Tryz.ntmps282
 go_wp2
 clear z1 z2
 go_loopg [14,15] (m-a) (fun kx s10 s11 wr=>∃(i j:Nat),s10= .int .i64 i/\s11= .int .i64 j/\a<=i/\i<=j/\j<=m/\j-i<=kx/\Aside (∀q,a<=q->q<i->(ltOf cf) d[m]! d[q]! =false)/\Aside (j<m->(ltOf cf) d[m]! d[j]! =true)/\Aside (SW enc w0 blk off d wr))
 case atStart=>exact⟨a,m,rfl,rfl,by omega,by omega,by omega,by omega,fun q h1 h2=>by omega,fun h=>by omega,S0⟩
 case round=>
  clear S0
  obtain⟨i,j,rfl,rfl,hi,hij,hjb,hkx,H1,H2,S1⟩:=hrel
  by_cases hlt:i<j
  ·have hz1:(i:Int)<(j:Int):=by omega
   obtain⟨h,hh⟩:=zB ((i+j)/2)
   have eh:((i:Int)+(j:Int))/2=(h:Int):=by omega
   have hhb:(h:Int)<(d.size:Int):=by omega
   have hab2:(m:Int)<(d.size:Int):=by omega
   obtain⟨x1,hx1⟩:∃x,x=d[m]! :=⟨_,rfl⟩
   obtain⟨y1,hy1⟩:∃x,x=d[h]! :=⟨_,rfl⟩
   have l1:=S1.out.cl R (by omega) m (by omega)
   have l2:=S1.out.cl R (by omega) h (by omega)
   rw[<-hx1]at l1
   rw[<-hy1]at l2
   have hc:=S1.out.cmp HC.out (by omega) x1 y1
   cases hlv:(ltOf cf) d[m]! d[h]! with
   |false=>
    have hv:¬cf x1 y1<0:=by rw[hx1,hy1];exact of_decide_eq_false hlv
    have hd:decide (cf x1 y1<0)=false:=decide_eq_false hv
    have H3:Aside (∀q,a<=q->q<h+1->(ltOf cf) d[m]! d[q]! =false):=fun q h1 h2=>zGw HO.out HP.out (by omega) (by omega) hlv h1 (by omega)
    clear hx1 hy1 hlv hh
    go_wp2_with fail
    go_quiet_grown (first|(go_at_fn g;refine Calls.grown_of (hc _ _)))
    have S2:Aside (SW enc w0 blk off d (grow (wr.drewN nq) osq)):=S1.out.grown nq osq
    clear l1 l2 hc S1
    generalize grow (wr.drewN nq) osq=w2 at S2⊢
    clear nq osq
    go_wp2
    go_roundg (j-(h+1))
    case measure=>omega
    case rel=>exact⟨h+1,j,by go_num,rfl,by omega,by omega,by omega,by omega,H3,H2,S2⟩
   |true=>
    have hv:cf x1 y1<0:=by rw[hx1,hy1];exact of_decide_eq_true hlv
    have hd:decide (cf x1 y1<0)=true:=decide_eq_true hv
    have H3:Aside (h<m->(ltOf cf) d[m]! d[h]! =true):=fun _=>hlv
    clear hx1 hy1 hlv hh
    go_wp2_with fail
    go_quiet_grown (first|(go_at_fn g;refine Calls.grown_of (hc _ _)))
    have S2:Aside (SW enc w0 blk off d (grow (wr.drewN nq) osq)):=S1.out.grown nq osq
    clear l1 l2 hc S1
    generalize grow (wr.drewN nq) osq=w2 at S2⊢
    clear nq osq
    go_wp2
    go_roundg (h-i)
    case measure=>omega
    case rel=>exact⟨i,h,rfl,rfl,by omega,by omega,by omega,by omega,H1,H3,S2⟩
  ·obtain rfl:i=j:=by omega
   clear hij hkx
   go_wp2
   go_loopg [17] (m-i) (fun kx s13 wr=>∃(k:Nat) (dk:Array α),s13= .int .i64 k/\i<=k/\k<=m/\k-i<=kx/\Aside (Shr d m k dk)/\Aside (SW enc w0 blk off dk wr))
   case atStart=>exact⟨m,d,rfl,by omega,by omega,by omega,Shr.start d m,S1⟩
   case round=>
    clear S1
    obtain⟨k,dk,rfl,hak,hki,hkx,SH,S1⟩:=hrel
    have hds:dk.size=d.size:=SH.out.perm.1
    by_cases hlt2:i<k
    ·obtain⟨k',rfl⟩:∃k',k=k'+1:=⟨k-1,by omega⟩
     have hz2:decide ((i:Int)<((k'+1:Nat):Int))=true:=decide_eq_true (by omega)
     go_wp2_with fail
     obtain⟨jN,hjN⟩:∃q,q=k'+1:=⟨_,rfl⟩
     have ea:((k':Int)+1).toNat=jN:=by omega
     have eb:((k':Int)+1-1)=(k':Int):=by omega
     have pa:(0:Int)<=(k':Int)+1:=by omega
     have ba:(k':Int)+1<(d.size:Int):=by omega
     have bk:(k':Int)<(d.size:Int):=by omega
     have ra:IntKind.i64.wrap ((k':Int)+1)=(k':Int)+1:=by rw[IntKind.wrap_i64];omega
     obtain⟨x1,hx1⟩:∃x,x=dk[k'+1]! :=⟨_,rfl⟩
     obtain⟨y1,hy1⟩:∃x,x=dk[k']! :=⟨_,rfl⟩
     have S2:Aside (SW enc w0 blk off (swp dk (k'+1) k') ((wr.setCell ⟨blk,off+jN,none⟩ (enc y1)).setCell ⟨blk,off+k',none⟩ (enc x1)).drew):=by rw[hjN,hx1,hy1];exact S1.out.swapped R (k'+1) k' (by omega) (by omega)
     have SH2:Aside (Shr d m k' (swp dk (k'+1) k')):=SH.out.step hki (by omega)
     have c1:=S1.out.c1 R (by omega) (k'+1) (by omega)
     have c2:=S1.out.c1 R (by omega) k' (by omega)
     have f1:=S1.out.f1 R (by omega) (k'+1) (by omega)
     have f2:=S1.out.f1 R (by omega) k' (by omega)
     obtain⟨u1,c3⟩:=S1.out.c2 R (by omega) (k'+1) k' (by omega) (by omega) (enc y1)
     rw[<-hjN]at c3
     rw[<-hx1,<-hjN]at c1
     rw[<-hy1]at c2
     rw[<-hjN]at f1
     clear S1 SH hx1 hy1 hjN
     go_wp2_with fail
     go_big_region
     clear c1 c2 c3 f1 f2
     generalize ((wr.setCell ⟨blk,off+jN,none⟩ (enc y1)).setCell ⟨blk,off+k',none⟩ (enc x1)).drew=w2 at S2⊢
     clear ea
     go_wp2
     go_roundg (k'-i)
     case measure=>omega
     case rel=>exact⟨k',swp dk (k'+1) k',rfl,by omega,by omega,by omega,SH2,S2⟩
    ·obtain rfl:k=i:=by omega
     have hz2:decide ((k:Int)<(k:Int))=false:=decide_eq_false (by omega)
     have hfin:=zXd HO.out HP.out (i:=k) (by omega) (by omega) hb H1.out H2.out SH.out
     rw[HB.out]at hfin
     have HF:=zH hfin
     clear hfin
     go_wp2
     try simp only[Exit.inBlock,Exit.then]
     refine bodyPost_ret (v:= .tuple #[]) (by kernel_rfl) rfl ?_
     exact⟨rfl,dk,HF.out,S1.out⟩
end St
namespace St
open Go.RowKit Go.Lib Go.Sort Go.Proofs
variable {α:Type} [Inhabited α]
def qBs (enc:α->Value) (t:α->α->Bool) (I:α->Nat) (g:Nat) (cb:Array Value) (blk off cap:Nat) (d0:Array α) (w0:World) (a m b:Nat):Prop:=
 ∀(d:Array α) (w:World),d0.size=d.size->SW enc w0 blk off d w->b<=d.size->Pre t I a m b d->
  Calls Tryz.prog 282 #[.slice (some ⟨blk,off,none⟩) d.size cap,.int .i64 (a:Int),.int .i64 (m:Int),.int .i64 (b:Int),.func (.func g) #[] cb] w fun e w'=>e= .returned (.tuple #[])/\∃d',(PermIn a b d d'/\SortedIn t a b d')/\SW enc w0 blk off d' w'
theorem zWm (enc:α->Value) (cf:α->α->Int) {t:α->α->Bool} {I:α->Nat} (ho:Ord (ltOf cf) t I) (g:Nat) (cb:Array Value) (blk off cap a m b:Nat) (d0:Array α) (w0:World) (eg:∀args w,(callFunc g args).run Tryz.prog w= .ok (.enter g args) w)
  (hcmp:CmpLays1 Tryz.prog g cb enc cf blk off d0.size w0) (R:Row1 enc w0 blk off d0) (ham:a+1<m) (hmb:m+1<b) (hsz:d0.size<1000000000)
  (ih:∀a' m' b',b'-a'<b-a->a'<m'->m'<b'->qBs enc t I g cb blk off cap d0 w0 a' m' b'):qBs enc t I g cb blk off cap d0 w0 a m b:=by
 intro d w hs S hb hp
 have hcl0:=R.hO.cells
 simp only[Value.cells]at hcl0
 have hst:=R.hO.store Tryz.prog
 have mixed:Tryz.prog.follows .mixedOrders=true:=by kernel_rfl
 have S0:Aside (SW enc w0 blk off d w):=S
 have HC:=zH hcmp
 have HP:=zH hp
 have HO:=zH ho
 have IH:=zH ih
 have hd9:d.size<1000000000:=by omega
 have z1:(((m:Int)-(a:Int))==1)=false:=by rw[beq_eq_false_iff_ne];omega
 have z2:(((b:Int)-(m:Int))==1)=false:=by rw[beq_eq_false_iff_ne];omega
 obtain⟨mid,hmid⟩:=zB ((a+b)/2)
 have ez:((a:Int)+(b:Int))/2=(mid:Int):=by omega
 have hm1:a+b<=2*mid+1:=by omega
 have hm2:2*mid<=a+b:=by omega
 clear S hcmp hp ho ih hmid
 go_enter Tryz.func282,Tryz.ntmps282
 go_upto_if 140 with fail
 clear z1 z2 ez
 go_cut [20,21] (fun s20 s21 wx=>∃lo hi:Nat,s20= .int .i64 lo/\s21= .int .i64 hi/\a<=lo/\lo<=hi/\hi<=m/\hi<=mid/\mid+m<=b+lo/\(a<lo->mid+m=b+lo)/\(hi<m->hi=mid)/\w=wx)
 case first=>
  by_cases hmm:mid<m
  ·have hz:decide ((mid:Int)<(m:Int))=true:=decide_eq_true (by omega)
   obtain⟨lo,hlo⟩:=zB (mid+m-b)
   have e1:(mid:Int)+(m:Int)-(b:Int)=(lo:Int):=by omega
   go_wp2
   go_meet
   exact⟨lo,mid,rfl,rfl,by omega,by omega,by omega,by omega,by omega,by omega,by omega,rfl⟩
  ·have hz:decide ((mid:Int)<(m:Int))=false:=decide_eq_false (by omega)
   go_wp2
   go_meet
   exact⟨a,m,rfl,rfl,by omega,by omega,by omega,by omega,by omega,by omega,by omega,rfl⟩
 case rest=>
  obtain⟨lo,hi,rfl,rfl,k1,k2,k3,k4,k5,k6,k7,rfl⟩:=hcut
  go_wp2
  go_loopg [20,21] (hi-lo) (fun kx s20 s21 wr=>∃(s r:Nat),s20= .int .i64 s/\s21= .int .i64 r/\lo<=s/\s<=r/\r<=hi/\r-s<=kx/\Aside (lo<s->(ltOf cf) d[mid+m-s]! d[s-1]! =false)/\Aside (r<hi->(ltOf cf) d[mid+m-1-r]! d[r]! =true)/\Aside (SW enc w0 blk off d wr))
  case atStart=>exact⟨lo,hi,rfl,rfl,by omega,by omega,by omega,by omega,fun h=>by omega,fun h=>by omega,S0⟩
  case round=>
   clear S0
   obtain⟨s,r,rfl,rfl,hls,hsr,hrh,hkx,H1,H2,S1⟩:=hrel
   by_cases hlt:s<r
   ·have hz1:(s:Int)<(r:Int):=by omega
    obtain⟨c,hc0⟩:=zB ((s+r)/2)
    have ec:((s:Int)+(r:Int))/2=(c:Int):=by omega
    obtain⟨p,hp0⟩:=zB (mid+m-1-c)
    have ep:(mid:Int)+(m:Int)-1-(c:Int)=(p:Int):=by omega
    have rp:IntKind.i64.wrap (p:Int)=(p:Int):=by rw[IntKind.wrap_i64];omega
    have hcb:(c:Int)<(d.size:Int):=by omega
    have hpb:(p:Int)<(d.size:Int):=by omega
    obtain⟨x1,hx1⟩:∃x,x=d[p]! :=⟨_,rfl⟩
    obtain⟨y1,hy1⟩:∃x,x=d[c]! :=⟨_,rfl⟩
    have l1:=S1.out.cl R (by omega) p (by omega)
    have l2:=S1.out.cl R (by omega) c (by omega)
    rw[<-hx1]at l1
    rw[<-hy1]at l2
    have hc:=S1.out.cmp HC.out (by omega) x1 y1
    cases hlv:(ltOf cf) d[p]! d[c]! with
    |false=>as_aux_lemma=>
     have hv:¬cf x1 y1<0:=by rw[hx1,hy1];exact of_decide_eq_false hlv
     have hd:decide (cf x1 y1<0)=false:=decide_eq_false hv
     have H3:Aside (lo<c+1->(ltOf cf) d[mid+m-(c+1)]! d[c+1-1]! =false):=fun _=>by
      rw[show mid+m-(c+1)=p by omega,Nat.add_sub_cancel];exact hlv
     have hc1:s<=c:=by omega
     have hc2:c<r:=by omega
     clear hx1 hy1 hlv hc0 hp0
     go_wp2_with fail
     go_quiet_grown (first|(go_at_fn g;refine Calls.grown_of (hc _ _)))
     have S2:Aside (SW enc w0 blk off d (grow (wr.drewN nq) osq)):=S1.out.grown nq osq
     clear l1 l2 hc S1
     generalize grow (wr.drewN nq) osq=w2 at S2⊢
     clear nq osq ep
     go_wp2
     go_roundg (r-(c+1))
     case measure=>omega
     case rel=>exact⟨c+1,r,by go_num,rfl,by omega,by omega,by omega,by omega,H3,H2,S2⟩
    |true=>as_aux_lemma=>
     have hv:cf x1 y1<0:=by rw[hx1,hy1];exact of_decide_eq_true hlv
     have hd:decide (cf x1 y1<0)=true:=decide_eq_true hv
     have H3:Aside (c<hi->(ltOf cf) d[mid+m-1-c]! d[c]! =true):=fun _=>by
      rw[hp0];exact hlv
     have hc1:s<=c:=by omega
     have hc2:c<r:=by omega
     clear hx1 hy1 hlv hc0 hp0
     go_wp2_with fail
     go_quiet_grown (first|(go_at_fn g;refine Calls.grown_of (hc _ _)))
     have S2:Aside (SW enc w0 blk off d (grow (wr.drewN nq) osq)):=S1.out.grown nq osq
     clear l1 l2 hc S1
     generalize grow (wr.drewN nq) osq=w2 at S2⊢
     clear nq osq ep
     go_wp2
     go_roundg (c-s)
     case measure=>omega
     case rel=>exact⟨s,c,rfl,rfl,by omega,by omega,by omega,by omega,H1,H3,S2⟩
   ·obtain rfl:s=r:=by omega
    obtain⟨e,he⟩:=zB (mid+m-s)
    have ee:(mid:Int)+(m:Int)-(s:Int)=(e:Int):=by omega
    have F1:=zH (show a<s->e<b->(ltOf cf) d[e]! d[s-1]! =false from fun h1 h2=>by
     have h3:=H1.out (by omega)
     rwa[he]at h3)
    have F2:=zH (show s<m->m<e->(ltOf cf) d[e-1]! d[s]! =true from fun h1 h2=>by
     have h3:=H2.out (by omega)
     rwa[show mid+m-1-s=e-1 by omega]at h3)
    have g1:a<=s:=by omega
    have g2:s<=m:=by omega
    have g3:m<=e:=by omega
    have g4:e<=b:=by omega
    have g5:s+e=mid+m:=by omega
    have g6:s<=mid:=by omega
    have g7:mid<=e:=by omega
    clear H1 H2 he
    go_upto_region 38 with fail
    go_cut [20,24] (fun s20 s24 wx=>s20= .int .i64 s/\s24= .int .i64 e/\wr=wx)
    case first=>
     go_wp2
     go_meet
     exact⟨rfl,rfl,rfl⟩
    case rest=>
     obtain⟨rfl,rfl,rfl⟩:=hcut
     apply_assumption
     apply wp_seq_k
     intro K2 hK2
     go_cut [20,24] (fun s20 s24 wx=>s20= .int .i64 s/\s24= .int .i64 e/\∃d1,Aside (Rot d s m e d1)/\Aside (SW enc w0 blk off d1 wx))
     case first=>as_aux_lemma=>
      by_cases q1:s<m
      ·by_cases q2:m<e
       ·have b1:decide ((s:Int)<(m:Int))=true:=decide_eq_true (by omega)
        have b2:decide ((m:Int)<(e:Int))=true:=decide_eq_true (by omega)
        have HR:=zH (zZl enc (.func (.func g) #[] cb) blk off cap s m e d0 d w0 wr R hs S1.out (by omega) (by omega) (by omega) hd9)
        go_wp2_with fail
        (with_reducible refine HR.out.mono ?_)
        rintro e' w2 ⟨rfl,d2,hrot,hs2⟩
        go_wp2
        go_meet
        exact⟨rfl,rfl,d2,hrot,hs2⟩
       ·have b1:decide ((s:Int)<(m:Int))=true:=decide_eq_true (by omega)
        have b2:decide ((m:Int)<(e:Int))=false:=decide_eq_false (by omega)
        go_wp2
        go_meet
        exact⟨rfl,rfl,d,Rot.none d (by omega) (by omega) (by omega),S1.out⟩
      ·have b1:decide ((s:Int)<(m:Int))=false:=decide_eq_false (by omega)
       go_wp2
       go_meet
       exact⟨rfl,rfl,d,Rot.none d (by omega) (by omega) (by omega),S1.out⟩
     case rest=>
      obtain⟨rfl,rfl,d1,HR1,S1⟩:=hcut
      obtain⟨wr1,rfl⟩:∃wo,wo=wc:=⟨_,rfl⟩
      have hz1:d1.size=d.size:=HR1.out.perm.1
      have HF:=zH (half HO.out HP.out g1 g2 g3 g4 hb g5 F1.out F2.out HR1.out)
      apply_assumption
      apply wp_seq_k
      intro K3 hK3
      go_cut [20,24] (fun s20 s24 wx=>s20= .int .i64 s/\s24= .int .i64 e/\∃d2,Aside (PermIn a mid d1 d2/\SortedIn t a mid d2)/\Aside (SW enc w0 blk off d2 wx))
      case first=>as_aux_lemma=>
       by_cases q1:a<s
       ·by_cases q2:s<mid
        ·have b1:decide ((a:Int)<(s:Int))=true:=decide_eq_true (by omega)
         have b2:decide ((s:Int)<(mid:Int))=true:=decide_eq_true (by omega)
         have HR:=zH (IH.out a s mid (by omega) (by omega) (by omega) d1 wr1 (by omega) S1.out (by omega) HF.out.one)
         rw[hz1]at HR
         go_wp2_with fail
         (with_reducible refine HR.out.mono ?_)
         rintro e' w2 ⟨rfl,d2,hps,hs2⟩
         go_wp2
         go_meet
         exact⟨rfl,rfl,d2,hps,hs2⟩
        ·have b1:decide ((a:Int)<(s:Int))=true:=decide_eq_true (by omega)
         have b2:decide ((s:Int)<(mid:Int))=false:=decide_eq_false (by omega)
         go_wp2
         go_meet
         exact⟨rfl,rfl,d1,⟨permIn_refl _ _ _,HF.out.one.done (by omega)⟩,S1.out⟩
       ·have b1:decide ((a:Int)<(s:Int))=false:=decide_eq_false (by omega)
        go_wp2
        go_meet
        exact⟨rfl,rfl,d1,⟨permIn_refl _ _ _,HF.out.one.done (by omega)⟩,S1.out⟩
      case rest=>
       obtain⟨rfl,rfl,d2,HS2,S2⟩:=hcut
       obtain⟨wr2,rfl⟩:∃wo,wo=wc:=⟨_,rfl⟩
       have hz2:d2.size=d.size:=HS2.out.1.1.trans hz1
       have HP2:=zH (HF.out.first (by omega) (by omega) (by omega) g7 HS2.out.1)
       have HPM:=zH (show ∀d3,PermIn mid b d2 d3->PermIn a b d d3 from fun d3 h3=>
        permIn_trans _ _ _ _ _ (permIn_trans _ _ _ _ _ (permIn_mono _ _ _ _ _ _ g1 g4 hb HR1.out.perm) (permIn_mono _ _ _ _ _ _ (Nat.le_refl _) (by omega) (by omega) HS2.out.1)) (permIn_mono _ _ _ _ _ _ (by omega) (Nat.le_refl _) (by omega) h3))
       as_aux_lemma=>
       by_cases q1:mid<e
       ·by_cases q2:e<b
        ·have b1:decide ((mid:Int)<(e:Int))=true:=decide_eq_true (by omega)
         have b2:decide ((e:Int)<(b:Int))=true:=decide_eq_true (by omega)
         have HR:=zH (IH.out mid e b (by omega) (by omega) (by omega) d2 wr2 (by omega) S2.out (by omega) HP2.out.1)
         rw[hz2]at HR
         go_wp2_with fail
         (with_reducible refine HR.out.mono ?_)
         rintro e' w2 ⟨rfl,d3,hps,hs3⟩
         have hfin:=both (by omega) (by omega) (by omega) HS2.out.2 HP2.out.2 hps.1 hps.2
         have HFN:=zH hfin
         have HPM:=zH (HPM.out _ hps.1)
         go_wp2
         go_end0
         exact⟨rfl,d3,⟨HPM.out,HFN.out⟩,hs3⟩
        ·have b1:decide ((mid:Int)<(e:Int))=true:=decide_eq_true (by omega)
         have b2:decide ((e:Int)<(b:Int))=false:=decide_eq_false (by omega)
         have hfin:=both (by omega) (by omega) (by omega) HS2.out.2 HP2.out.2 (permIn_refl _ _ _) (HP2.out.1.done (by omega))
         have HFN:=zH hfin
         have HPM:=zH (HPM.out _ (permIn_refl _ _ _))
         go_wp2
         go_end0
         exact⟨rfl,d2,⟨HPM.out,HFN.out⟩,S2.out⟩
       ·have b1:decide ((mid:Int)<(e:Int))=false:=decide_eq_false (by omega)
        have hfin:=both (by omega) (by omega) (by omega) HS2.out.2 HP2.out.2 (permIn_refl _ _ _) (HP2.out.1.done (by omega))
        have HFN:=zH hfin
        have HPM:=zH (HPM.out _ (permIn_refl _ _ _))
        go_wp2
        go_end0
        exact⟨rfl,d2,⟨HPM.out,HFN.out⟩,S2.out⟩
end St
namespace St
open Go.RowKit Go.Lib Go.Sort Go.Proofs
variable {α:Type} [Inhabited α]
theorem zUj (enc:α->Value) (cf:α->α->Int) {t:α->α->Bool} {I:α->Nat} (ho:Ord (ltOf cf) t I) (g:Nat) (cb:Array Value) (blk off cap:Nat) (d0:Array α) (w0:World) (eg:∀args w,(callFunc g args).run Tryz.prog w= .ok (.enter g args) w)
  (hcmp:CmpLays1 Tryz.prog g cb enc cf blk off d0.size w0) (R:Row1 enc w0 blk off d0) (hsz:d0.size<1000000000):
  ∀(k a m b:Nat),b-a<=k->a<m->m<b->qBs enc t I g cb blk off cap d0 w0 a m b
 |0,a,m,b,hk,h1,h2=>by omega
 |k+1,a,m,b,hk,h1,h2=>by
  by_cases e1:m=a+1
  ·subst e1
   intro d w hs S hb hp
   exact zWn enc cf ho g cb blk off cap a b d0 d w0 w eg hcmp R hs S h2 hb (by omega) hp
  ·by_cases e2:b=m+1
   ·subst e2
    intro d w hs S hb hp
    exact zUk enc cf ho g cb blk off cap a m d0 d w0 w eg hcmp R hs S (by omega) (by omega) (by omega) hp
   ·exact zWm enc cf ho g cb blk off cap a m b d0 w0 eg hcmp R (by omega) (by omega) hsz (fun a' m' b' h3 h4 h5=>zUj enc cf ho g cb blk off cap d0 w0 eg hcmp R hsz k a' m' b' (by omega) h4 h5)
end St
namespace St
open Go.RowKit Go.Lib Go.Sort Go.Proofs
variable {α:Type} [Inhabited α]
structure Tw (t:α->α->Bool) (I:α->Nat) (n a:Nat) (d dk:Array α):Prop where
 mul:Mul 20 a
 fst:Fst I n 20 dk
 blk:Blk t n 20 0 a dk
 rest:∀p q,a<=p->p<q->q<n->I dk[p]! <I dk[q]!
 perm:PermIn 0 n d dk
theorem Tw.start {t:α->α->Bool} {I:α->Nat} {n:Nat} {d:Array α} (h:∀p q,p<q->q<n->I d[p]! <I d[q]!):Tw t I n 0 d d:=
 ⟨Mul.zero _,fun c _ p q h1 h2 h3=>h p q (by omega) h3,fun c _ _ h2=>by omega,fun p q _ h2 h3=>h p q h2 h3,permIn_refl _ _ _⟩
theorem Tw.step {lt t:α->α->Bool} {I:α->Nat} {n a b:Nat} {d dk:Array α} (ho:Ord lt t I) (h:Tw t I n a d dk) (hn:n=d.size) (hb:b=min (a+20) n) (ha:a<=n):Tw t I n (a+20) d (insertionSort lt dk a b):=by
 have hz:=h.perm.1
 obtain⟨hp,hs⟩:=qAq ho dk a b (by omega) (by omega) (fun k' k h1 h2 h3=>h.rest k' k h1 h2 (by omega))
 refine⟨h.mul.next,h.fst.perm h.mul (by omega) (by omega) (by omega) (by omega) hp,h.blk.more h.mul (by omega) hb hp hs,fun p q h1 h2 h3=> ?_,?_⟩
 ·rw[hp.2.1 p (.inr (by omega)),hp.2.1 q (.inr (by omega))]
  exact h.rest p q (by omega) h2 h3
 ·exact permIn_trans _ _ _ _ _ h.perm (permIn_mono _ _ _ _ _ _ (Nat.zero_le _) (by omega) (by omega) hp)
theorem Tw.all {t:α->α->Bool} {I:α->Nat} {n a:Nat} {d dk:Array α} (h:Tw t I n a d dk) (ha:n<=a):Fst I n 20 dk/\Blk t n 20 0 n dk:=
 ⟨h.fst,fun c h1 h2 h3=>h.blk c h1 h2 (by omega)⟩
theorem zZb (enc:α->Value) (cf:α->α->Int) {t:α->α->Bool} {I:α->Nat} (ho:Ord (ltOf cf) t I) (g:Nat) (cb:Array Value) (blk off cap:Nat) (d:Array α) (w0:World) (eg:∀args w,(callFunc g args).run Tryz.prog w= .ok (.enter g args) w)
  (hcmp:CmpLays1 Tryz.prog g cb enc cf blk off d.size w0) (R:Row1 enc w0 blk off d) (hsz:d.size<1000000) (w:World) (S:SW enc w0 blk off d w) (hI:∀p q,p<q->q<d.size->I d[p]! <I d[q]!):
  Calls Tryz.prog 242 #[.slice (some ⟨blk,off,none⟩) d.size cap,.int .i64 (d.size:Int),.func (.func g) #[] cb] w fun e w'=>e= .returned (.tuple #[])/\∃d',(PermIn 0 d.size d d'/\SortedIn t 0 d.size d')/\SW enc w0 blk off d' w':=by
 have hcl0:=R.hO.cells
 simp only[Value.cells]at hcl0
 have S0:Aside (SW enc w0 blk off d w):=S
 have HC:=zH hcmp
 have HO:=zH ho
 obtain⟨n,hn⟩:=zB d.size
 rw[hn]at hsz hI⊢
 have T0:=zH (Tw.start (t:=t) hI)
 have HN:=zH hn
 clear S hcmp ho hI hn
 go_enter Tryz.func242,Tryz.ntmps242
 go_wp2
 go_loopg [7,8] n (fun kx s7 s8 wr=>∃(a:Nat) (dk:Array α),s7= .int .i64 a/\s8= .int .i64 ((a+20:Nat):Int)/\a<=n/\n-a<=kx/\RowKit.Hid (Tw t I n a d dk)/\Aside (SW enc w0 blk off dk wr))
 case atStart=>exact⟨0,d,rfl,rfl,by omega,by omega,T0,S0⟩
 case round=>
  clear S0 T0
  obtain⟨a,dk,rfl,rfl,han,hkx,TW,S1⟩:=hrel
  have hds:dk.size=n:=by rw[TW.out.perm.1,HN.out]
  obtain⟨b,hb⟩:=zB (a+20)
  rw[hb]
  by_cases hlt:b<=n
  ·have hz1:decide ((b:Int)<=(n:Int))=true:=decide_eq_true (by omega)
   have HI:=zH (Tryz.insertionSortCmpFunc_s enc cf g cb blk off cap a b d dk w0 wr eg HC.out R (by rw[hds,HN.out]) S1.out (by omega) (by omega) (by omega))
   rw[hds]at HI
   go_wp2_with fail
   (with_reducible refine HI.out.mono ?_)
   rintro e w2 ⟨rfl,hs2⟩
   have S2:Aside (SW enc w0 blk off (insertionSort (ltOf cf) dk a b) w2):=hs2
   have T2:=zH (TW.out.step HO.out HN.out.symm (b:=b) (by omega) han)
   rw[hb]at T2
   clear hs2 HI TW S1
   go_wp2
   go_roundg (n-b)
   case measure=>omega
   case rel=>exact⟨b,_,rfl,by go_num,by omega,by omega,T2,S2⟩
  ·have hz1:decide ((b:Int)<=(n:Int))=false:=decide_eq_false (by omega)
   have HI:=zH (Tryz.insertionSortCmpFunc_s enc cf g cb blk off cap a n d dk w0 wr eg HC.out R (by rw[hds,HN.out]) S1.out (by omega) (by omega) (by omega))
   rw[hds]at HI
   go_wp2_with fail
   (with_reducible refine HI.out.mono ?_)
   rintro e w2 ⟨rfl,hs2⟩
   have S2:Aside (SW enc w0 blk off (insertionSort (ltOf cf) dk a n) w2):=hs2
   have T2:=zH (TW.out.step HO.out HN.out.symm (b:=n) (by omega) han)
   have A2:=zH (T2.out.all (by omega))
   have P2:=zH T2.out.perm
   clear T2 HI TW hs2 S1 hz1 hlt hb han hkx
   go_wp2
   go_loopg [6,7,8] n (fun kx s6 s7 s8 wr=>∃(s:Nat) (dk:Array α),s6= .int .i64 s/\0<s/\s<=2000000/\n-s<=kx/\RowKit.Hid (Fst I n s dk/\Blk t n s 0 n dk)/\RowKit.Hid (PermIn 0 n d dk)/\Aside (SW enc w0 blk off dk wr))
   case atStart=>exact⟨20,_,rfl,by omega,by omega,by omega,A2,P2,S2⟩
   case round=>
    clear S2 P2 A2
    obtain⟨s,dk,rfl,hs0,hs2,hkx,FB,PM,S1⟩:=hrel
    have hds:dk.size=n:=by rw[PM.out.1,HN.out]
    by_cases hlt:s<n
    ·have hz1:decide ((s:Int)<(n:Int))=true:=decide_eq_true (by omega)
     have L0:=zH (Lev.start FB.out.1 FB.out.2)
     clear FB hds
     go_wp2
     go_loopg [7,8] n (fun kx s7 s8 wr=>∃(a:Nat) (dk:Array α),s7= .int .i64 a/\s8= .int .i64 ((a+2*s:Nat):Int)/\a<=n/\n-a<=kx/\RowKit.Hid (Lev t I n s a dk)/\RowKit.Hid (PermIn 0 n d dk)/\Aside (SW enc w0 blk off dk wr))
     case atStart=>exact⟨0,dk,rfl,by go_num,by omega,by omega,L0,PM,S1⟩
     case round=>
      clear L0 PM S1 dk
      obtain⟨a,dk,rfl,rfl,han,hkx,LV,PM,S1⟩:=hrel
      have hds:dk.size=n:=by rw[PM.out.1,HN.out]
      obtain⟨b,hb⟩:=zB (a+2*s)
      rw[hb]
      by_cases hlt2:b<=n
      ·have hz2:decide ((b:Int)<=(n:Int))=true:=decide_eq_true (by omega)
       have HI:=zH (zUj enc cf HO.out g cb blk off cap d w0 eg HC.out R (by rw[HN.out];omega) (b-a) a (a+s) b (Nat.le_refl _) (by omega) (by omega) dk wr (by rw[hds,HN.out]) S1.out (by omega) (LV.out.pre (by omega) (by omega) hs0 (by omega)))
       rw[hds]at HI
       obtain⟨m,hm⟩:=zB (a+s)
       rw[hm]at HI
       have em:(a:Int)+(s:Int)=(m:Int):=by omega
       go_wp2_with fail
       (with_reducible refine HI.out.mono ?_)
       rintro e w3 ⟨rfl,d3,hpd,hs3⟩
       have S3:Aside (SW enc w0 blk off d3 w3):=hs3
       have L3:=zH (LV.out.more (b:=b) (by omega) (by omega) hs0 (by omega) hpd.1 hpd.2)
       have P3:=zH (permIn_trans _ _ _ _ _ PM.out (permIn_mono _ _ _ _ _ _ (Nat.zero_le _) hlt2 (by omega) hpd.1))
       rw[hb]at L3
       clear hs3 HI LV PM S1 hpd em
       go_wp2
       go_roundg (n-b)
       case measure=>omega
       case rel=>exact⟨b,d3,rfl,by go_num,by omega,by omega,L3,P3,S3⟩
      ·have hz2:decide ((b:Int)<=(n:Int))=false:=decide_eq_false (by omega)
       obtain⟨m,hm⟩:=zB (a+s)
       have em:(a:Int)+(s:Int)=(m:Int):=by omega
       by_cases hlt3:m<n
       ·have hz3:decide ((m:Int)<(n:Int))=true:=decide_eq_true (by omega)
        have HI:=zH (zUj enc cf HO.out g cb blk off cap d w0 eg HC.out R (by rw[HN.out];omega) (n-a) a (a+s) n (Nat.le_refl _) (by omega) (by omega) dk wr (by rw[hds,HN.out]) S1.out (by omega) (LV.out.pre (by omega) (by omega) hs0 (by omega)))
        rw[hds,hm]at HI
        go_wp2_with fail
        (with_reducible refine HI.out.mono ?_)
        rintro e w3 ⟨rfl,d3,hpd,hs3⟩
        have S3:Aside (SW enc w0 blk off d3 w3):=hs3
        have L3:=zH ((LV.out.more (b:=n) (by omega) (by omega) hs0 (by omega) hpd.1 hpd.2).end_ (by omega))
        have P3:=zH (permIn_trans _ _ _ _ _ PM.out (permIn_mono _ _ _ _ _ _ (Nat.zero_le _) (Nat.le_refl _) (by omega) hpd.1))
        clear hs3 HI LV PM S1 hpd em
        go_wp2
        go_roundg (n-2*s)
        case measure=>omega
        case rel=>exact⟨2*s,d3,by go_num,by omega,by omega,by omega,L3,P3,S3⟩
       ·have hz3:decide ((m:Int)<(n:Int))=false:=decide_eq_false (by omega)
        have L3:=zH ((LV.out.tail hs0 (by omega)).end_ (by omega))
        clear LV
        go_wp2
        go_roundg (n-2*s)
        case measure=>omega
        case rel=>exact⟨2*s,dk,by go_num,by omega,by omega,by omega,L3,PM,S1⟩
    ·have hz1:decide ((s:Int)<(n:Int))=false:=decide_eq_false (by omega)
     have HF:=zH (FB.out.2.all (by omega))
     go_wp2
     go_end0
     exact⟨rfl,dk,⟨PM.out,HF.out⟩,S1.out⟩
theorem zP3 (enc:α->Value) (cf:α->α->Int) {t:α->α->Bool} {I:α->Nat} (ho:Ord (ltOf cf) t I) (g:Nat) (cb:Array Value) (blk off cap:Nat) (d:Array α) (eg:∀args w,(callFunc g args).run Tryz.prog w= .ok (.enter g args) w)
  (w:World) (hcmp:CmpLays1 Tryz.prog g cb enc cf blk off d.size w) (R:Row1 enc w blk off d) (hsz:d.size<1000000) (S:SW enc w blk off d w) (hI:∀p q,p<q->q<d.size->I d[p]! <I d[q]!):
  Calls Tryz.prog 181 #[.slice (some ⟨blk,off,none⟩) d.size cap,.func (.func g) #[] cb] w fun e w'=>e= .returned (.tuple #[])/\∃d',(PermIn 0 d.size d d'/\SortedIn t 0 d.size d')/\SW enc w blk off d' w':=by
 have HS:=zH (zZb enc cf ho g cb blk off cap d w eg hcmp R hsz w S hI)
 obtain⟨n,hn⟩:=zB d.size
 rw[hn]at HS⊢
 clear hcmp R hsz S hI hn
 go_enter Tryz.func181,Tryz.ntmps181
 go_wp2_with fail
 (with_reducible refine HS.out.mono ?_)
 rintro e w2 ⟨rfl,d2,h2,hs2⟩
 go_wp2
 go_end0
 exact⟨rfl,d2,h2,hs2⟩
end St
end Go.Proofs.YtppnakkaljbmbaaGreatDoor
