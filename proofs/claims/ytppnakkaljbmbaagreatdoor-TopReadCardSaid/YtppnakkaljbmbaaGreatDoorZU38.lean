/- Steps of a proof; no condition beyond what each states. -/
import Derived.Test.YtppnakkaljbmbaaGreatDoorZU37
set_option linter.unusedVariables false
set_option linter.unusedSimpArgs false
set_option maxRecDepth 100000
set_option maxHeartbeats 8000000
namespace Go.Proofs.YtppnakkaljbmbaaGreatDoor
namespace Sm
open Go.RowKit Hf Bt Zr Ix Front Wg Ch Sl Sq Us St Tn Bk Rg
theorem zRw {A B:World} {b:Nat} {v:Value} (h:Boxed A b 9 v) {D:Nat} (g:RP D A B):Boxed B b 9 v:=
 g.old b _ h (.inr ⟨(fun cs f e=>by injection e with _ e _;exact absurd e (by decide)),(fun cs f e=>by injection e with _ e _;exact absurd e (by decide))⟩)
theorem qCq {a:ByteArray} (h:0<a.size):¬a.toList.isEmpty=true:=by
 rw[Lib.toList_data]
 intro e
 rw[List.isEmpty_iff]at e
 have:a.data.toList.length=a.size:=by simp
 rw[e]at this
 simp at this
 omega
theorem zW8 (D b lev n:Nat) (ps:List T) (a:ByteArray) (A:Arc lev ps a n) (C:Nat->TypeId->Prop) (hC1:∀k,¬C k TSr) (hC2:∀k,¬C k zCf) (hCb:¬C b 9) (W:World) (hD:D<=W.heap.size) (hbox:Boxed W b 9 (.string a)):
  qBt Tryz.prog 188 #[.pointer (some ⟨b,0,none⟩)] (EP lev ps) (RP D) C (List.range n) W:=by
 intro l J Jx hJ hY h0
 obtain⟨K,hK⟩:=zB W.heap.size
 obtain⟨W1,hW1⟩:=zB (W.alloc (.cells #[.string a,.int .i64 0,.slice none 0 0] TSr))
 have HS1:=zH (show SR W1 K a 0 none 0 0 by rw[<-hW1,<-hK];exact zAh W _)
 have hrp:RP D W W1:=RP.below (E:=W.heap.size) (by rw[<-hW1];exact(Below.refl _ _).alloc (Nat.le_refl _) _) rfl
 have HJ1:=zH (hJ _ _ _ h0 hrp)
 have HJ:=zH hJ
 have HB1:=zH (zRw hbox hrp)
 have HST:=zH (fun(w:World) (h1:SR w K a 0 none 0 0) (h2:J [] w) (h3:Boxed w b 9 (.string a))=>
  zUl D K l lev n (by omega) ps a A C hC1 hC2 (fun pre W=>J pre W/\Boxed W b 9 (.string a)) Jx (fun pre A B h g=>⟨hJ pre A B h.1 g,zRw h.2 g⟩)
   (fun pre x W1 vs h he hp=>by
    obtain⟨fn,tmps,assign,body,hy,hR⟩:=hY pre x W1 vs h.1 he hp
    refine⟨fn,tmps,assign,body,hy,hR.mono ?_⟩
    rintro e W' (⟨h4,h5,h6⟩|h4)
    ·exact .inl ⟨h4,⟨h5,h6.2 _ _ _ _ h.2 hCb⟩,h6⟩
    ·exact .inr h4) w h1 ⟨h2,h3⟩)
 have hcb:=hbox.cell
 have hne:=qCq (a:=a) (by have:=A.head.size;omega)
 have h4:=A.head.size
 have hs:=A.size
 have HW:=zH hW1
 have HK:=zH hK
 clear hW1 hK hrp hJ hY h0 A
 refine callsIn_of_wp Tryz.func188 rfl trivial ?_ rfl
 simp only[Tryz.ntmps188,List.size_toArray,List.length_cons,List.length_nil,Nat.reduceAdd,Nat.reduceSub,Array.replicate_succ,Array.replicate_zero,List.push_toArray,List.append_toArray,List.nil_append,List.cons_append]
 gi_wp2
 rw[HK.out,show W.alloc (.cells #[.string a,.int .i64 0,.slice none 0 0] TSr)=W1 from HW.out]
 clear hcb
 gi_loopw [20] (fun _ wr=>RowKit.Hid (Boxed wr b 9 (.string a))/\((RowKit.Hid (SR wr K a 0 none 0 0)/\RowKit.Hid (J [] wr))\/∃p m c,RowKit.Hid (SR wr K a (8*a.size) p m c)/\RowKit.Hid (J (List.range n) wr))) (fun _ wr=>8*a.size-zVp K wr)
 case atStart=>exact⟨HB1,.inl ⟨HS1,HJ1⟩⟩
 case round=>
  clear HS1 HJ1 HB1
  obtain⟨hbx,hst⟩:=hrel
  have hcb:=hbx.out.cell
  have hw8:IntKind.i64.wrap (8*(a.size:Int))=8*(a.size:Int):=IntWalk.i64_in _ ⟨by omega,by omega⟩
  have HJ2:=zH (fun(q:Nat) (pre:List Nat) (hj:J pre wr)=>HJ.out _ _ _ hj (show RP D wr (wr.drewN q)from⟨rfl,rfl,rfl,Nat.le_refl _,fun _ _ h _=>h⟩))
  rcases hst with⟨hs0,hj0⟩|⟨p,m,c,hs0,hj0⟩
  ·have c1:=hs0.out.c1
   rw[show((0:Nat):Int)=0 from rfl]at c1
   gi_wp2
   gi_quiet (fail)
   have HC:=zH (HST.out (wr.drewN nq) (show SR (wr.drewN nq) K a 0 none 0 0 from hs0.out) (HJ2.out nq _ hj0.out) (show Boxed (wr.drewN nq) b 9 (.string a)from hbx.out))
   have hat:=zJ7 hs0.out
   have HAT:=zH hat
   clear c1 hcb hs0 hj0 hat HJ2
   gi_wp2_with fail
   refine⟨trivial,(callsIn_wide.2 (callsIn_wide.1 HC.out)).mono ?_⟩
   rintro e w3 (⟨rfl,⟨hj3,hb3⟩,p,c,hs3⟩|⟨rfl,pre,hpre,hjx⟩)
   ·have J3:=zH hj3
    have B3:=zH hb3
    have S3:=zH hs3
    clear hj3 hb3 hs3 HC
    gi_wp2
    go_roundw
    case rel=>exact⟨B3,.inr ⟨_,_,_,S3,J3⟩⟩
    case measure=>rw[zJ7 S3.out,HAT.out];omega
   ·have X3:=zH (And.intro hpre hjx)
    clear hpre hjx HC
    gi_wp2
    refine bodyPost_ret (results_none rfl _ _ _) rfl ?_
    exact⟨⟨_,rfl⟩,.inr ⟨_,X3.out⟩⟩
  ·have c1:=hs0.out.c1
   rw[show((8*a.size:Nat):Int)=8*(a.size:Int)by omega]at c1
   gi_wp2
   gi_quiet (fail)
   gi_wp2
   first|go_end0|refine bodyPost_ret (results_none rfl _ _ _) rfl ?_
   exact⟨⟨_,rfl⟩,.inl (HJ2.out nq _ hj0.out)⟩
end Sm
namespace Sm
open Go.RowKit Hf Bt Zr Ix Front Wg Ch Sl Sq Us St Tn Bk Rg
variable {W A w W':World} {B l n c D:Nat} {e:TypeId} {a:Option Addr} {o:Obj}
attribute [local go_sem] Oper.semAt_some
structure Pt where
 s:ByteArray
 u:BitVec 32
 i:Nat
 j:Nat
 r:Nat
def LPt:Kit.Lay Pt where
 k:=5
 pos:=by omega
 cl x:=[.string x.s,zAx x.u,.int .i64 (x.i:Int),.int .i64 (x.j:Int),.int .i64 (x.r:Int)]
 len _:=rfl
 one m:=by simp[Value.oneCell',zAx]
def zD2 (lev:Nat) (ps:List T) (k:Nat):Pt:=⟨Rle.bs (ps.getD k []),Crc.sum (ps.getD k []),pos ps k,pos ps (k+1),40*lev⟩
def zZs (p:Pt):Value:= .agg #[.string p.s,zAx p.u,.int .i64 (p.i:Int),.int .i64 (p.j:Int),.int .i64 (p.r:Int)]
theorem qB0 (lev:Nat) (ps:List T) (k:Nat):PV lev ps k=zZs (zD2 lev ps k):=rfl
theorem zK8 (p:Pt):∃s u i j r,p=⟨s,u,i,j,r⟩:=⟨_,_,_,_,_,rfl⟩
abbrev TPt:TypeId:=122
abbrev TPs:TypeId:=115
theorem qG7:Kit.zVx Tryz.prog TPs TPt LPt.k 48:=⟨Tryz.underlying115,⟨.agg #[.string ⟨#[]⟩,.int .u32 0,.int .i64 0,.int .i64 0,.int .i64 0],by kernel_rfl,rfl⟩⟩
structure AI (w W:World) (B n:Nat) (l:List Pt):Prop where
 own:∃p c,Boxed W B TPs (.slice p n c)/\Kit.Own' LPt W (B+2) TPt p n c l
 err:Boxed W (B+1) 26 (.int .i64 0)
 below:Below B w W
 size:B+3<=W.heap.size
theorem zQy {α:Type} {L:Kit.Lay α} {xs:List α} (h:Kit.Own' L W B e a n c xs) (o':Obj) (hl:W.heap[l]? =some o) (ho:o.isCells=false):Kit.Own' L (W.putObj l o') B e a n c xs:=by
 obtain⟨h1,h2⟩:=h
 refine⟨h1,?_⟩
 rcases h2 with h2|⟨g,cap,cur,hv,hbg,hg,r⟩
 ·exact .inl h2
 ·exact .inr ⟨g,cap,cur,hv,hbg,zBl hg o' hl ho,r⟩
theorem qC3 {α:Type} {L:Kit.Lay α} {xs:List α} (h:Kit.Own' L A B e a n c xs) (hr:RP D A W) (h1:e≠TSr) (h2:e≠zCf):Kit.Own' L W B e a n c xs:=by
 obtain⟨h3,h4⟩:=h
 refine⟨h3,?_⟩
 rcases h4 with h4|⟨g,cap,cur,hv,hbg,hg,r⟩
 ·exact .inl h4
 ·exact .inr ⟨g,cap,cur,hv,hbg,hr.old g _ hg (.inr ⟨(fun cs f e=>by injection e with _ e _;exact h1 e),(fun cs f e=>by injection e with _ e _;exact h2 e)⟩),r⟩
theorem zPa {b:Nat} {t:TypeId} {v:Value} (h:Boxed A b t v) (g:RP D A W) (h1:t≠TSr) (h2:t≠zCf):Boxed W b t v:=
 g.old b _ h (.inr ⟨(fun cs f e=>by injection e with _ e _;exact h1 e),(fun cs f e=>by injection e with _ e _;exact h2 e)⟩)
theorem AI.put {xs:List Pt} (h:AI w W B n xs) (o':Obj) (hl:W.heap[l]? =some o) (ho:o.isCells=false) (hB:B<=l):AI w (W.putObj l o') B n xs:=by
 obtain⟨p,c,h1,h2⟩:=h.own
 exact⟨⟨p,c,zBl h1 o' hl ho,zQy h2 o' hl ho⟩,zBl h.err o' hl ho,Rle.zAu o' h.below hl hB (by have:=h.size;omega),by rw[putObj_size];exact h.size⟩
theorem AI.rp {xs:List Pt} (h:AI w W B n xs) (g:RP D W W') (hBD:B<=D) (hD:D<=W.heap.size):AI w W' B n xs:=by
 obtain⟨p,c,h1,h2⟩:=h.own
 exact⟨⟨p,c,zPa h1 g (by decide) (by decide),qC3 h2 g (by decide) (by decide)⟩,zPa h.err g (by decide) (by decide),g.from h.below hBD hD,Nat.le_trans h.size g.size⟩
theorem AI.keep {xs:List Pt} (h:AI w W B n xs) (g:Below W.heap.size W W'):AI w W' B n xs:=
 h.rp (D:=W.heap.size) (RP.below g rfl) (by have:=h.size;omega) (Nat.le_refl _)
theorem AI.push {L:Nat} {xs:List Pt} (h:AI w W B n xs) (hn:n<=100000) (x:Pt) (hL:W.heap[L]? =some (.cells (LPt.cl x).toArray TPt (0,0))):
  ∃p c p1 c1 w1 w2,Boxed W B TPs (.slice p n c)/\(Builtin.append_ #[TPs,TPs] TPs #[.slice p n c,.slice (some ⟨W.heap.size,0,none⟩) 1 1]).run Tryz.prog (W.alloc (.cells (LPt.cl x).toArray TPt))= .ok (.slice p1 (n+1) c1) w1/\
   Boxed w1 B TPs (.slice p n c)/\w1.setCell ⟨B,0,none⟩ (.slice p1 (n+1) c1)=w2/\AI w w2 B (n+1) (xs++[x])/\KeepsOthers W w2/\Sc (fun _ t=>t=TPt\/t=TPs) W w2:=by
 obtain⟨p,c,hb,ho⟩:=h.own
 have hz3:=h.size
 have hz:B+2<=W.heap.size:=by omega
 obtain⟨p1,c1,w1,hr,ho1,hg⟩:=Kit.Own'.app (ty:=TPs) qG7 (ho.alloc (.cells (LPt.cl x).toArray TPt)) (some ⟨W.heap.size,0,none⟩) 1 1 [x] (Kit.zFo W x TPt) rfl (fun h=>by cases h) (by unfold maxLen;omega) (by omega) (by simp;omega)
 have hbk:=(ho.alloc (.cells (LPt.cl x).toArray TPt)).block
 have hba:Below W.heap.size W (W.alloc (.cells (LPt.cl x).toArray TPt)):=(Below.refl _ _).alloc (Nat.le_refl _) _
 have hbl:Below (B+2) W w1:=(hba.mono hz).trans (Kit.zAq hg (by simp;omega) (fun k hk=>hbk k hk))
 have hb1:Boxed w1 B TPs (.slice p n c):=(hbl.block B (by omega)).trans hb
 have hty:∀(k:Nat) (o:Obj),W.heap[k]? =some o->(∀cs f,o≠ .cells cs TPt f)->w1.heap[k]? =some o:=by
  intro k o hk hne
  obtain⟨_,_,_,_,hold⟩:=hg
  refine(hold k (by simp;have:=zAd hk;omega) (fun e=> ?_)).trans ((hba.block k (zAd hk)).trans hk)
  cases p with
  |none=>cases e
  |some q=>
   rcases ho.2 with⟨e1,_⟩|⟨g,cap,cur,hv,hgK,hgg,_⟩
   ·cases e1
   ·injection hv with hv _ _
    injection hv with hv
    subst hv
    injection e with e
    subst e
    rw[hgg]at hk
    injection hk with hk
    exact hne _ _ hk.symm
 refine⟨p,c,p1,c1,w1,_,hb,hr,hb1,rfl,⟨⟨p1,c1,?_,?_⟩,?_,?_,?_⟩,⟨?_,?_⟩,⟨?_,?_⟩⟩
 ·unfold Boxed at*
  exact(zA3 0 (.slice p1 (n+1) c1) hb1)
 ·obtain⟨h3,h4⟩:=ho1
  refine⟨h3,?_⟩
  rcases h4 with h4|⟨g,cap,cur,hv,hbg,hgg,r⟩
  ·exact .inl h4
  ·exact .inr ⟨g,cap,cur,hv,hbg,(zAa (by omega)).trans hgg,r⟩
 ·exact(zAa (by omega)).trans ((hbl.block (B+1) (by omega)).trans h.err)
 ·exact(h.below.trans (hbl.mono (by omega))).setCell (p:=⟨B,0,none⟩) (Nat.le_refl _) _
 ·have:=hbl.size;simp;omega
 ·have:=hbl.size;simp;exact this
 ·intro k o hk hc
  have hkB:k≠B:=by rintro rfl;rw[show W.heap[k]? =_ from hb]at hk;injection hk with hk;subst hk;cases hc
  exact(zAa hkB).trans (hty k o hk (fun cs f e=>by rw[e]at hc;cases hc))
 ·have:=hbl.size;simp;exact this
 ·intro k cs t f hk hc
  have hkB:k≠B:=by rintro rfl;rw[show W.heap[k]? =_ from hb]at hk;injection hk with hk;injection hk with _ hk _;exact hc (.inr hk.symm)
  exact(zAa hkB).trans (hty k _ hk (fun cs' f' e=>by injection e with _ e _;exact hc (.inl e)))
def AJ (w:World) (a:ByteArray) (B lev:Nat) (ps:List T) (pre:List Nat) (x:Nat) (vs:Array Value) (ac:Act) (W:World):Prop:=
 ∃L:Nat,ac={tmps:= #[.string a,undef,.pointer (some ⟨B,0,none⟩),.pointer (some ⟨B+1,0,none⟩),.pointer (some ⟨L,0,none⟩),.int .i64 0,.string a,.func (.func 188) #[] #[.pointer (some ⟨B+2,0,none⟩)],PV lev ps x,.int .i64 0,undef,undef,undef,undef,undef,undef,undef,undef],defers:=[]}/\
  W.heap[L]? =some (.cells (LPt.cl (zD2 lev ps x)).toArray TPt (0,0))/\AI w W B pre.length (pre.map (zD2 lev ps))
theorem zUu (a:ByteArray) (w:World):
  Calls Tryz.prog 139 #[.string a] w fun e w'=>e= .returned (.func (.func 188) #[] #[.pointer (some ⟨w.heap.size,0,none⟩)])/\w'=w.alloc (.cells #[.string a] 9):=by
 have hmf:∀(fn:Fn) (first cap:Array Value) (w:World),(Instr.makeFunc fn first cap).run Tryz.prog w= .ok (.func fn first cap) w:=fun _ _ _ _=>rfl
 go_enter Tryz.func139,Tryz.ntmps139
 go_wp2
 go_ret
 exact⟨rfl,rfl⟩
theorem zYp (lev n:Nat) (ps:List T) (a:ByteArray) (A:Arc lev ps a n) (w:World):
  Calls Tryz.prog 61 #[.string a] w fun e w'=>∃p c,e= .returned (.tuple #[.slice p n c,.int .i64 0])/\Kit.Own' LPt w' w.heap.size TPt p n c ((List.range n).map (zD2 lev ps))/\Below w.heap.size w w':=by
 obtain⟨B,hB⟩:=zB w.heap.size
 have HA:=zH A
 obtain⟨w2,hw2⟩:=zB ((w.alloc (.cells #[.slice none 0 0] TPs)).alloc (.cells #[.int .i64 0] 26))
 have hz2:w2.heap.size=B+2:=by rw[<-hw2,zA,zA,hB]
 have b2:Below B w w2:=by rw[<-hw2,<-hB];exact((Below.refl _ _).alloc (Nat.le_refl _) _).alloc (by rw[zA];omega) _
 have x2:Boxed w2 B TPs (.slice none 0 0):=by
  rw[<-hw2]
  refine(Lib.alloc_old _ _ B (by rw[zA];omega)).trans ?_
  rw[<-hB]
  exact zAh w _
 have y2:Boxed w2 (B+1) 26 (.int .i64 0):=by
  rw[<-hw2,show B+1=(w.alloc (.cells #[.slice none 0 0] TPs)).heap.size by rw[zA,hB]]
  exact zAh _ _
 obtain⟨w3,hw3⟩:=zB (w2.alloc (.cells #[.string a] 9))
 have hb3:Below (B+2) w2 w3:=by rw[<-hw3,<-hz2];exact(Below.refl _ _).alloc (Nat.le_refl _) _
 have hz3:w3.heap.size=B+3:=by rw[<-hw3,zA,hz2]
 have AI3:=zH (show AI w w3 B 0 []from⟨⟨none,0,(hb3.block B (by omega)).trans x2,Kit.Own'.start _ _ _⟩,(hb3.block (B+1) (by omega)).trans y2,b2.trans (hb3.mono (by omega)),by omega⟩)
 have X3:=zH (show Boxed w3 (B+2) 9 (.string a)by rw[<-hw3,<-hz2];exact zAh _ _)
 have HP:=zH (zUu a w2)
 rw[hz2,hw3]at HP
 have HW2:=zH hw2
 have HB:=zH hB
 rw[hB]
 clear hw2 b2 x2 y2 hw3 hb3 A hB hz2
 refine(callsIn_wide (n:=3)).1 ?_
 refine callsIn_of_wp_marks Tryz.func61 rfl trivial ?_ rfl
 simp only[Tryz.ntmps61,List.size_toArray,List.length_cons,List.length_nil,Nat.reduceAdd,Nat.reduceSub,Array.replicate_succ,Array.replicate_zero,List.push_toArray,List.append_toArray,List.nil_append,List.cons_append]
 gi_wp2_with fail
 rw[HB.out,show(w.alloc (.cells #[.slice none 0 0] TPs)).alloc (.cells #[.int .i64 0] 26)=w2 from HW2.out]
 refine⟨trivial,(callsIn_wide.2 HP.out).mono ?_⟩
 rintro e w4 ⟨rfl,rfl⟩
 clear HP HW2
 gi_wp2
 refine zL9 (gf:=188) (lb:= #[.pointer (some ⟨B+2,0,none⟩)]) rfl (enters_of Tryz.func188 (by kernel_rfl) rfl)
  (EP lev ps) (RP (B+3)) (fun _ t=>t=TPt\/t=TPs) (List.range n)
  (fun _ _ h=>h.keeps)
  (fun _ _ _ h=>by obtain rfl:=h;rfl)
  (fun _ _ _ _ _ _ _ _ h=>h)
  (fun W hW=>zW8 (B+3) (B+2) lev n ps a HA.out _ (fun _=>by decide) (fun _=>by decide) (by decide) W (by have:=hW.size;omega) ((hW.block _ (by omega)).trans X3.out))
  (fun pre W=>AI w W B pre.length (pre.map (zD2 lev ps)))
  (fun _ _ _=>False)
  (fun pre W k o o' hk ho hcs hi=>hi.put o' ho hcs (by omega))
  (fun _ _ _ _ _ _ _ _ _ h=>h)
  (fun pre A D hi hr=>hi.rp hr (by omega) hi.size)
  (fun o o'=>AI3.out.keep (((Below.refl _ _).alloc (Nat.le_refl _) o).alloc (by simp) o'))
  (AJ w a B lev ps)
  (fun pre x vs ac W k o o' hk ho hcs h=>by
   obtain⟨L,h1,h2,h3⟩:=h
   exact⟨L,h1,zBl h2 o' ho hcs,h3.put o' ho hcs (by omega)⟩)
  ?assign ?body ?done ?stop
 case assign=>
  rintro k pre x W vs K hsW hi rfl hK
  obtain⟨Wc,hWc⟩:=zB (W.alloc (.cells (LPt.cl (zD2 lev ps x)).toArray TPt))
  have hbc:Below W.heap.size W Wc:=by rw[<-hWc];exact(Below.refl _ _).alloc (Nat.le_refl _) _
  have hX:Wc.heap[W.heap.size]? =some (.cells (LPt.cl (zD2 lev ps x)).toArray TPt (0,0)):=by rw[<-hWc];exact zAh W _
  have HKK:=zH (fun ac h=>hK ac Wc ⟨hbc.size,fun k o hk _=>(hbc.block k (zAd hk)).trans hk⟩ (Sc.below hbc) ⟨W.heap.size,h,hX,hi.keep hbc⟩)
  rw[qB0]at HKK⊢
  obtain⟨s,u,pi,pj,r,hp⟩:=zK8 (zD2 lev ps x)
  rw[hp]at HKK hWc⊢
  have HWC:=zH (show W.alloc (.cells #[.string s,.int .u32 (Crc.U u),.int .i64 (pi:Int),.int .i64 (pj:Int),.int .i64 (r:Int)] TPt)=Wc from hWc)
  unfold zZs zAx at HKK⊢
  clear hK hi hX hbc hWc hp
  gi_wp2
  rw[show W.alloc (.cells #[.string s,.int .u32 (Crc.U u),.int .i64 (pi:Int),.int .i64 (pj:Int),.int .i64 (r:Int)] TPt)=Wc from HWC.out]
  exact HKK.out _ rfl
 case body=>
  rintro k pre x W vs ac hsW ⟨L,rfl,hL,hi⟩ hpre
  have hlen:pre.length<n:=by have:=hpre.length_le;rw[List.length_append,List.length_range,List.length_singleton]at this;omega
  have hn:=HA.out.many
  rw[qB0]
  obtain⟨s,u,pi,pj,r,hp⟩:=zK8 (zD2 lev ps x)
  rw[hp]at hL⊢
  obtain⟨p,c,p1,c1,w1,w2,hb,hr,hb1,hw2,hi2,hko,hsc⟩:=hi.push (by omega) ⟨s,u,pi,pj,r⟩ hL
  rw[<-hp]at hi2
  have HI2:=zH hi2
  have HKO:=zH (And.intro hko hsc)
  have x0:=hb.cell
  have hr':(Builtin.append_ #[TPs,TPs] TPs #[.slice p pre.length c,.slice (some ⟨W.heap.size,0,none⟩) 1 1]).run Tryz.prog (W.alloc (.cells #[.string s,.int .u32 (Crc.U u),.int .i64 (pi:Int),.int .i64 (pj:Int),.int .i64 (r:Int)] TPt))= .ok (.slice p1 (pre.length+1) c1) w1:=hr
  have x1:=hb1.cell
  have f1:=hb1.frozen
  have y0:W.cell? ⟨L,0,none⟩=some (.string s):=by simp[World.cell?,hL,LPt]
  have y1:W.cell? ⟨L,1,none⟩=some (.int .u32 (Crc.U u)):=by simp[World.cell?,hL,LPt,zAx]
  have y2:W.cell? ⟨L,2,none⟩=some (.int .i64 (pi:Int)):=by simp[World.cell?,hL,LPt]
  have y3:W.cell? ⟨L,3,none⟩=some (.int .i64 (pj:Int)):=by simp[World.cell?,hL,LPt]
  have y4:W.cell? ⟨L,4,none⟩=some (.int .i64 (r:Int)):=by simp[World.cell?,hL,LPt]
  unfold zZs zAx
  obtain⟨m,hm⟩:=zB pre.length
  rw[hm]at x0 x1 hr' hw2
  have HM:=zH hm
  clear hi hL hp hr hi2 hko hsc hm hb hb1
  gi_wp2_with (gi_at_builtin;refine zLt rfl (.tmp 13) (.tmp 15) TPs rfl rfl rfl hr' ?_)
  refine⟨HKO.out.1,HKO.out.2,?_⟩
  show AI w w2 B (pre++[x]).length ((pre++[x]).map (zD2 lev ps))
  rw[List.length_append,List.length_singleton,List.map_append,List.map_singleton]
  exact HI2.out
 case done=>
  rintro D W hD hi hK
  rw[List.length_range]at hi
  obtain⟨p,c,hb,ho⟩:=hi.own
  have x0:=hb.cell
  have f0:=hb.frozen
  have y0:=hi.err.cell
  have g0:=hi.err.frozen
  have hz:=hi.size
  have H:=zH (And.intro hb (And.intro ho hi))
  clear hb ho hi
  gi_wp2
  have hBD:B≠D:=by rintro rfl;rw[show W.heap[B]? =_ from H.out.1]at hK;injection hK with hK;cases hK
  have hBD1:B+1≠D:=by rintro rfl;rw[show W.heap[B+1]? =_ from H.out.2.2.err]at hK;injection hK with hK;cases hK
  obtain⟨F,hF⟩:=zB ((W.setCell ⟨B,0,none⟩ (.slice p n c)).setCell ⟨B+1,0,none⟩ (.int .i64 0))
  have hK':F.heap[D]? =some (.deferred (some [])):=by rw[<-hF];exact(zAa (Ne.symm hBD1)).trans ((zAa (Ne.symm hBD)).trans hK)
  have e1:Boxed F B TPs (.slice p n c):=by
   rw[<-hF]
   exact(zAa (by omega)).trans (zA3 0 (.slice p n c) H.out.1)
  have e2:Boxed F (B+1) 26 (.int .i64 0):=by
   rw[<-hF]
   exact zA3 0 (.int .i64 0) ((zAa (by omega)).trans H.out.2.2.err)
  have e3:Kit.Own' LPt F (B+2) TPt p n c ((List.range n).map (zD2 lev ps)):=by
   obtain⟨h3,h4⟩:=H.out.2.1
   refine⟨h3,?_⟩
   rcases h4 with h4|⟨g,cap,cur,hv,hbg,hgg,r⟩
   ·exact .inl h4
   ·exact .inr ⟨g,cap,cur,hv,hbg,by rw[<-hF];exact(zAa (by omega)).trans ((zAa (by omega)).trans hgg),r⟩
  have e4:Below B w F:=by rw[<-hF];exact(H.out.2.2.below.setCell (p:=⟨B,0,none⟩) (Nat.le_refl _) _).setCell (p:=⟨B+1,0,none⟩) (Nat.le_succ _) _
  have hFz:B<=F.heap.size:=by rw[<-hF];simp;omega
  rw[hF]
  refine⟨by simp,.inl ⟨_,_,rfl,run_takeDeferred hK',?_⟩⟩
  have r1:=Boxed.cell (show Boxed (F.putObj D (.deferred none)) B TPs (.slice p n c)from zBl e1 (.deferred none) hK' rfl)
  have r2:=Boxed.cell (show Boxed (F.putObj D (.deferred none)) (B+1) 26 (.int .i64 0)from zBl e2 (.deferred none) hK' rfl)
  refine⟨.tuple #[.slice p n c,.int .i64 0],?_,p,c,rfl,(zQy e3 _ hK' rfl).base (by omega),Rle.zAu _ e4 hK' (by omega) hFz⟩
  simp[results,Tryz.f61,go_sem,r1,r2]
 case stop=>
  rintro D c pre W hD _ h _
  exact h.elim
end Sm
namespace Sm
open Go.RowKit Hf Bt Zr Ix Front Wg Ch Sl Sq Us St Tn Bk Rg
theorem rd5 {w:World} {p:Option Addr} {l:List Pt} (h:Kit.Rd LPt w p l) (k:Nat) (x:Pt) (hx:l[k]? =some x):∃g off,p=some ⟨g,off,none⟩/\w.cell? ⟨g,off+k*5,none⟩=some (.string x.s)/\w.cell? ⟨g,off+k*5+1,none⟩=some (zAx x.u)/\
  w.cell? ⟨g,off+k*5+2,none⟩=some (.int .i64 (x.i:Int))/\w.cell? ⟨g,off+k*5+3,none⟩=some (.int .i64 (x.j:Int))/\w.cell? ⟨g,off+k*5+4,none⟩=some (.int .i64 (x.r:Int)):=by
 obtain⟨g,off,hp,hc⟩:=h k x hx
 exact⟨g,off,hp,hc 0 (by decide),hc 1 (by decide),hc 2 (by decide),hc 3 (by decide),hc 4 (by decide)⟩
theorem zZ3 (lev n:Nat) (ps:List T) (k:Nat) (hk:k<n):((List.range n).map (zD2 lev ps))[k]? =some (zD2 lev ps k):=by
 rw[List.getElem?_map,List.getElem?_range hk]
 rfl
theorem zZq (lev n:Nat) (ps:List T) (a:ByteArray) (A:Arc lev ps a n) (hl:ps.flatten.length<=1000000) (w:World):
  Calls Tryz.prog 14 #[.string a] w fun e w'=>e= .returned (.tuple #[.string ⟨ps.flatten.toArray⟩,.int .i64 0])/\Below w.heap.size w w':=by
 have HAL:=zH (zYp lev n ps a A w)
 have hn:=A.many
 have HN:=zH A.len
 clear A
 go_enter Tryz.func14,Tryz.ntmps14
 go_wp2_with fail
 (with_reducible refine HAL.out.mono ?_)
 rintro e w1 ⟨p,c,rfl,ho,hb⟩
 have hcap:n<=c\/n=0:=by
  rcases Nat.eq_zero_or_pos n with h|h
  ·exact .inr h
  ·obtain⟨_,_,_,_,h⟩:=ho.at_ h
   exact .inl h
 obtain⟨b,hb0⟩:=zB w1.heap.size
 obtain⟨w2,hw2⟩:=zB (w1.alloc (.cells #[.pointer none,.slice none 0 0] Rle.TB))
 have HBLD:=zH (show Rle.Bld w2 b b []by rw[<-hw2,<-hb0];exact Rle.Bld.new w1)
 have HB2:=zH (show Below b w1 w2 by rw[<-hw2,<-hb0];exact(Below.refl _ _).alloc (Nat.le_refl _) _)
 have HRD:=zH ho.rd
 have HB1:=zH hb
 have HB0:=zH hb0
 have HW2:=zH hw2
 have hwb:w.heap.size<=b:=by have:=hb.size;omega
 clear ho hb hb0 hw2 HAL
 go_wp2
 rw[HB0.out,show w1.alloc (.cells #[.pointer none,.slice none 0 0] Rle.TB)=w2 from HW2.out]
 go_loopw [16] (fun iv wr=>∃k:Nat,k<=n/\iv= .int .i64 k/\RowKit.Hid (Rle.Bld wr b b (ps.take k).flatten)/\RowKit.Hid (Below b w1 wr)) (fun iv _=>n-(intOf iv).toNat)
 case atStart=>exact⟨0,Nat.zero_le _,rfl,HBLD,HB2⟩
 case round=>
  clear HBLD HB2
  obtain⟨k,hk,rfl,hbl,hbw⟩:=hrel
  by_cases hlt:k<n
  ·obtain⟨g,off,rfl,e0,e1,e2,e3,e4⟩:=rd5 (HRD.out.below hbw.out HB0.out.symm) k _ (zZ3 lev n ps k hlt)
   have hx:=HN.out
   have hkl:k<ps.length:=by omega
   have htk:(ps.take (k+1)).flatten=(ps.take k).flatten++ps.getD k []:=by
    rw[List.take_succ_eq_append_getElem hkl,List.flatten_append,List.getD_eq_getElem?_getD,List.getElem?_eq_getElem hkl]
    simp
   have hle:(ps.take (k+1)).flatten.length<=ps.flatten.length:=by
    have:=congrArg List.length (congrArg List.flatten (List.take_append_drop (k+1) ps))
    rw[List.flatten_append,List.length_append]at this
    omega
   rw[htk,List.length_append]at hle
   obtain⟨x,hxx⟩:=zB (ps.getD k [])
   obtain⟨s,u,i,j,r,hp⟩:=zK8 (zD2 lev ps k)
   have hs:s=Rle.bs x:=by rw[<-hxx];exact(congrArg Pt.s hp).symm
   rw[hp]at e0 e1 e2 e3 e4
   simp only at e0 e1 e2 e3 e4
   rw[hxx]at htk hle
   have hsz:s.size=x.length:=by rw[hs,Rle.zCh]
   have hcc:n<=c:=by omega
   obtain⟨W,hW⟩:=zB (wr.alloc (.cells #[.string s,zAx u,.int .i64 (i:Int),.int .i64 (j:Int),.int .i64 (r:Int)] TPt))
   have hbW:Below b w1 W:=by rw[<-hW];exact hbw.out.alloc (by have:=hbw.out.size;have:=HB0.out;omega) _
   have HBL:=zH (show Rle.Bld W b b (ps.take k).flatten by rw[<-hW];exact hbl.out.alloc _)
   have HWS:=zH (Rle.zB8 b b (ps.take k).flatten s W HBL.out (by omega) (by have:=hbW.size;have:=HB0.out;omega))
   have HBW:=zH hbW
   have HW:=zH hW
   have HT:=zH (show(ps.take (k+1)).flatten=(ps.take k).flatten++s.data.toList by rw[htk,hs,Rle.zBk])
   unfold zAx at e1 HW
   clear hbl hbw hx htk hle hxx hp hs hsz hbW hW
   go_wp2_with fail
   rw[show wr.alloc (.cells #[.string s,.int .u32 (Crc.U u),.int .i64 (i:Int),.int .i64 (j:Int),.int .i64 (r:Int)] TPt)=W from HW.out]
   (with_reducible refine HWS.out.mono ?_)
   rintro e w5 ⟨rfl,hbl5,hb5,_,_⟩
   have BL5:=zH hbl5
   have B5:=zH (HBW.out.trans hb5)
   clear hbl5 hb5 HWS HBL HBW HW e0 e1 e2 e3 e4
   go_wp2
   go_roundw
   case rel=>exact⟨k+1,by omega,by go_num,by rw[HT.out];exact BL5,B5⟩
   case measure=>simp only[intOf];omega
  ·obtain rfl:k=n:=by omega
   have HST:=zH (Rle.zD0 b b (ps.take k).flatten wr hbl.out (by have:=hbw.out.size;have:=HB0.out;omega))
   have HBW:=zH hbw.out
   clear hbl hbw
   go_wp2_with fail
   (with_reducible refine HST.out.mono ?_)
   rintro e w5 ⟨rfl,hb5,_⟩
   have B5:=zH (HBW.out.trans hb5)
   clear hb5 HST
   go_wp2
   go_ret2
   refine⟨?_,HB1.out.trans (B5.out.mono hwb)⟩
   rw[List.take_of_length_le (by rw[HN.out];exact Nat.le_refl _)]
   rfl
end Sm
namespace Sh
open Go.RowKit Hf Bt Zr Ix Front Wg Ch Sl Sq Us St Tn Bk Rg Sm
abbrev zCb:ByteArray:=⟨#[97,98]⟩
abbrev zBn:ByteArray:=⟨#[54,49,54,50]⟩
theorem qF2 (w:World):Calls Tryz.prog 273 #[.string zCb] w fun e w'=>e= .returned (.string zBn)/\Below w.heap.size w w':=by
 obtain⟨b,hb⟩:=zB w.heap.size
 obtain⟨w1,hw1⟩:=zB (w.alloc (.cells #[.pointer none,.slice none 0 0] Rle.TB))
 have HB1:=zH (show Rle.Bld w1 b b []by rw[<-hw1,<-hb];exact Rle.Bld.new w)
 have HBL:=zH (show Below b w w1 by rw[<-hw1,<-hb];exact(Below.refl _ _).alloc (Nat.le_refl _) _)
 have HZ:=zH (show b<=w1.heap.size by rw[<-hw1,zA,hb];omega)
 have HW:=zH hw1
 have HB:=zH hb
 rw[hb]
 clear hw1 hb
 go_enter Tryz.func273,Tryz.ntmps273
 go_wp2
 rw[HB.out,show w.alloc (.cells #[.pointer none,.slice none 0 0] Rle.TB)=w1 from HW.out]
 go_loopw [7] (fun iv wr=>∃k:Nat,k<=2/\iv= .int .i64 k/\RowKit.Hid (Rle.Bld wr b b (([54,49,54,50]:List UInt8).take (2*k)))/\RowKit.Hid (Below b w wr)/\RowKit.Hid (b<=wr.heap.size)) (fun iv _=>2-(intOf iv).toNat)
 case atStart=>exact⟨0,by omega,rfl,HB1,HBL,HZ⟩
 case round=>
  clear HB1 HBL HZ
  obtain⟨k,hk,rfl,hbl,hbw,hz⟩:=hrel
  have ONE:=zH (fun(W:World) (l:List UInt8) (c:UInt8) (V:Int) (hV:V=(c.toNat:Int)) (hl:l.length<=100) (hB:Rle.Bld W b b l) (hz:b<=W.heap.size)=>show Calls Tryz.prog 74 #[.pointer (some ⟨b,0,none⟩),.int .u8 V] W fun e w'=>e= .returned .nilIface/\Rle.Bld w' b b (l++[c])/\Below b W w'/\b<=w'.heap.size from by
   subst hV
   refine(Rle.zE7 b b l c W hB (by omega) hz).mono ?_
   rintro e w' ⟨h1,h2,h3,_,h5⟩
   exact⟨h1,h2,h3,Nat.le_trans hz h5⟩)
  obtain rfl|rfl|rfl:k=0\/k=1\/k=2:=by omega
  ·rw[show((0:Nat):Int)=0 from rfl]
   go_wp2_with fail
   (with_reducible refine(ONE.out _ [] 54 _ (by kernel_rfl) (by simp) hbl.out hz.out).mono ?_)
   rintro e w2 ⟨rfl,hb2,hw2,hz2⟩
   have X:=zH (And.intro hb2 (And.intro (hbw.out.trans hw2) hz2))
   clear hb2 hw2 hz2 hbl hbw hz
   go_wp2_with fail
   (with_reducible refine(ONE.out _ [54] 49 _ (by kernel_rfl) (by simp) X.out.1 X.out.2.2).mono ?_)
   rintro e w3 ⟨rfl,hb2,hw2,hz2⟩
   have Y:=zH (And.intro hb2 (And.intro (X.out.2.1.trans hw2) hz2))
   clear hb2 hw2 hz2 X ONE
   go_wp2
   go_roundw
   case rel=>exact⟨1,by omega,rfl,zH Y.out.1,zH Y.out.2.1,zH Y.out.2.2⟩
   case measure=>simp only[intOf];omega
  ·rw[show((1:Nat):Int)=1 from rfl]
   go_wp2_with fail
   (with_reducible refine(ONE.out _ [54,49] 54 _ (by kernel_rfl) (by simp) hbl.out hz.out).mono ?_)
   rintro e w2 ⟨rfl,hb2,hw2,hz2⟩
   have X:=zH (And.intro hb2 (And.intro (hbw.out.trans hw2) hz2))
   clear hb2 hw2 hz2 hbl hbw hz
   go_wp2_with fail
   (with_reducible refine(ONE.out _ [54,49,54] 50 _ (by kernel_rfl) (by simp) X.out.1 X.out.2.2).mono ?_)
   rintro e w3 ⟨rfl,hb2,hw2,hz2⟩
   have Y:=zH (And.intro hb2 (And.intro (X.out.2.1.trans hw2) hz2))
   clear hb2 hw2 hz2 X ONE
   go_wp2
   go_roundw
   case rel=>exact⟨2,by omega,rfl,zH Y.out.1,zH Y.out.2.1,zH Y.out.2.2⟩
   case measure=>simp only[intOf];omega
  ·rw[show((2:Nat):Int)=2 from rfl]
   have HST:=zH (Rle.zD0 b b _ wr hbl.out hz.out)
   have HBW:=zH hbw.out
   clear hbl hbw ONE
   go_wp2_with fail
   (with_reducible refine HST.out.mono ?_)
   rintro e w3 ⟨rfl,h3,_⟩
   have Y:=zH (HBW.out.trans h3)
   clear h3 HST
   go_wp2
   go_ret
   exact⟨rfl,Y.out⟩
end Sh
namespace Sh
open Go.RowKit Hf Bt Zr Ix Front Wg Ch Sl Sq Us St Tn Bk Rg Sm
abbrev zVd:ByteArray:=⟨#[48,49,50,51,52,53,54,55,56,57,97,98,99,100,101,102]⟩
theorem qHk (V:Int) (q:Nat) (hV:Lib.indexByte zVd.data.toList V.toNat.toUInt8=(q:Int)) (w:World):Calls Tryz.prog 272 #[.string zVd,.int .u8 V] w fun e w'=>e= .returned (.int .i64 (q:Int))/\w'=w:=by
 have h:=Tryz.strings_IndexByte zVd V w
 rw[hV]at h
 exact h
def hv (k:Nat):Int×Int:=match k with
 |0=>(0,0)
 |1=>(6,0)
 |2=>(97,0)
 |3=>(97,6)
 |_=>(97,98)
abbrev TY_:TypeId:=5
theorem zWb (w:World):Calls Tryz.prog 228 #[.string zBn] w fun e w'=>e= .returned (.tuple #[.string zCb,.int .i64 0])/\Below w.heap.size w w':=by
 obtain⟨b,hb⟩:=zB w.heap.size
 obtain⟨w1,hw1⟩:=zB (w.alloc (.cells #[.int .u8 0,.int .u8 0] TY_))
 have H1:=zH (show w1.heap[b]? =some (.cells #[.int .u8 (hv 0).1,.int .u8 (hv 0).2] TY_ (0,0))by rw[<-hw1,<-hb];exact zAh w _)
 have HBL:=zH (show Below b w w1 by rw[<-hw1,<-hb];exact(Below.refl _ _).alloc (Nat.le_refl _) _)
 have hmk:(Instr.makeSlice 109 (.int .i64 2) (.int .i64 2)).run Tryz.prog w= .ok (.slice (some ⟨b,0,none⟩) 2 2) w1:=by
  have hinf:(Tryz.prog.info? TY_).map (fun i=>(i.zero,i.size,i.bytes))=some (some (.int .u8 0),1,1):=by kernel_rfl
  obtain⟨i,hi,hz0,hz1,hz2⟩:=info_parts hinf
  have hr:=run_makeSlice (P:=Tryz.prog) w 109 TY_ i _ Tryz.underlying109 hi hz0 .i64 .i64 2 2 (by omega) (by omega) (by rw[hz1];decide) (by rw[hz2];decide) (by omega)
  rw[hz1,show madeCells (Value.int .u8 0).cells (Int.toNat 2*1)= #[.int .u8 0,.int .u8 0]from by kernel_rfl]at hr
  rw[<-hw1,<-hb]
  exact hr
 have HB:=zH hb
 rw[hb]
 clear hw1 hb
 go_enter Tryz.func228,Tryz.ntmps228
 go_wp2
 clear hmk
 go_loopw [17] (fun iv wr=>∃k:Nat,k<=4/\iv= .int .i64 k/\RowKit.Hid (wr.heap[b]? =some (.cells #[.int .u8 (hv k).1,.int .u8 (hv k).2] TY_ (0,0)))/\RowKit.Hid (Below b w wr)) (fun iv _=>4-(intOf iv).toNat)
 case atStart=>exact⟨0,by omega,rfl,H1,HBL⟩
 case round=>
  clear H1 HBL
  obtain⟨k,hk,rfl,hbk,hbw⟩:=hrel
  obtain⟨y0,y1,f0,f1⟩:=zAf hbk.out
  have IB:=zH (fun(V:Int) (q:Nat) (hV:Lib.indexByte zVd.data.toList V.toNat.toUInt8=(q:Int)) (w:World)=>qHk V q hV w)
  obtain rfl|rfl|rfl|rfl|rfl:k=0\/k=1\/k=2\/k=3\/k=4:=by omega
  ·rw[show((0:Nat):Int)=0 from rfl]
   have H2:=zH (fun(V:Int) (hV:V=(hv 1).1)=>show(wr.setCell ⟨b,0,none⟩ (.int .u8 V)).heap[b]? =some (.cells #[.int .u8 (hv 1).1,.int .u8 (hv 1).2] TY_ (0,0))from by subst hV;exact zA3 0 _ hbk.out)
   have B2:=zH (fun(V:Int)=>hbw.out.setCell (p:=⟨b,0,none⟩) (Nat.le_refl _) (.int .u8 V))
   unfold hv at y0 y1
   simp only at y0 y1
   go_wp2_with fail
   (with_reducible refine(IB.out _ 6 (by kernel_rfl) _).mono ?_)
   rintro e w2 ⟨rfl,rfl⟩
   clear hbk hbw IB
   rw[show((6:Nat):Int)=6 from rfl]
   go_wp2
   go_roundw
   case rel=>exact⟨1,by omega,rfl,zH (H2.out _ (by kernel_rfl)),zH (B2.out _)⟩
   case measure=>simp only[intOf];omega
  ·rw[show((1:Nat):Int)=1 from rfl]
   have H2:=zH (fun(V:Int) (hV:V=(hv 2).1)=>show(wr.setCell ⟨b,0,none⟩ (.int .u8 V)).heap[b]? =some (.cells #[.int .u8 (hv 2).1,.int .u8 (hv 2).2] TY_ (0,0))from by subst hV;exact zA3 0 _ hbk.out)
   have B2:=zH (fun(V:Int)=>hbw.out.setCell (p:=⟨b,0,none⟩) (Nat.le_refl _) (.int .u8 V))
   unfold hv at y0 y1
   simp only at y0 y1
   go_wp2_with fail
   (with_reducible refine(IB.out _ 1 (by kernel_rfl) _).mono ?_)
   rintro e w2 ⟨rfl,rfl⟩
   clear hbk hbw IB
   rw[show((1:Nat):Int)=1 from rfl]
   go_wp2
   go_roundw
   case rel=>exact⟨2,by omega,rfl,zH (H2.out _ (by kernel_rfl)),zH (B2.out _)⟩
   case measure=>simp only[intOf];omega
  ·rw[show((2:Nat):Int)=2 from rfl]
   have H2:=zH (fun(V:Int) (hV:V=(hv 3).2)=>show(wr.setCell ⟨b,1,none⟩ (.int .u8 V)).heap[b]? =some (.cells #[.int .u8 (hv 3).1,.int .u8 (hv 3).2] TY_ (0,0))from by subst hV;exact zA3 1 _ hbk.out)
   have B2:=zH (fun(V:Int)=>hbw.out.setCell (p:=⟨b,1,none⟩) (Nat.le_refl _) (.int .u8 V))
   unfold hv at y0 y1
   simp only at y0 y1
   go_wp2_with fail
   (with_reducible refine(IB.out _ 6 (by kernel_rfl) _).mono ?_)
   rintro e w2 ⟨rfl,rfl⟩
   clear hbk hbw IB
   rw[show((6:Nat):Int)=6 from rfl]
   go_wp2
   go_roundw
   case rel=>exact⟨3,by omega,rfl,zH (H2.out _ (by kernel_rfl)),zH (B2.out _)⟩
   case measure=>simp only[intOf];omega
  ·rw[show((3:Nat):Int)=3 from rfl]
   have H2:=zH (fun(V:Int) (hV:V=(hv 4).2)=>show(wr.setCell ⟨b,1,none⟩ (.int .u8 V)).heap[b]? =some (.cells #[.int .u8 (hv 4).1,.int .u8 (hv 4).2] TY_ (0,0))from by subst hV;exact zA3 1 _ hbk.out)
   have B2:=zH (fun(V:Int)=>hbw.out.setCell (p:=⟨b,1,none⟩) (Nat.le_refl _) (.int .u8 V))
   unfold hv at y0 y1
   simp only at y0 y1
   go_wp2_with fail
   (with_reducible refine(IB.out _ 2 (by kernel_rfl) _).mono ?_)
   rintro e w2 ⟨rfl,rfl⟩
   clear hbk hbw IB
   rw[show((2:Nat):Int)=2 from rfl]
   go_wp2
   go_roundw
   case rel=>exact⟨4,by omega,rfl,zH (H2.out _ (by kernel_rfl)),zH (B2.out _)⟩
   case measure=>simp only[intOf];omega
  ·rw[show((4:Nat):Int)=4 from rfl]
   have hsr:Kit.Src wr (some ⟨b,0,none⟩) (([97,98]:List UInt8).map Kit.zAe):=by
    intro j u hu
    match j,hu with
    |0,hu=>exact⟨_,_,rfl,by simp at hu;subst hu;exact y0⟩
    |1,hu=>exact⟨_,_,rfl,by simp at hu;subst hu;exact y1⟩
   have hcv:=Kit.Src.text (P:=Tryz.prog) (n:=2) (c:=2) (src:=109) (dst:=9) hsr rfl Tryz.underlying109 Tryz.underlying5 Tryz.underlying9
   have HBW:=zH hbw.out
   clear hbk hbw IB hsr
   go_wp2
   go_ret2
   exact⟨rfl,HBW.out⟩
end Sh
end Go.Proofs.YtppnakkaljbmbaaGreatDoor
