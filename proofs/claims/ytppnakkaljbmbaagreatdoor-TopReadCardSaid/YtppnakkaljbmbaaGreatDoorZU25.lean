/- Steps of a proof; no condition beyond what each states. -/
import Derived.Test.YtppnakkaljbmbaaGreatDoorZU24
set_option linter.unusedVariables false
set_option linter.unusedSimpArgs false
set_option maxRecDepth 100000
set_option maxHeartbeats 8000000
namespace Go.Proofs.YtppnakkaljbmbaaGreatDoor
namespace Hf
open Go.RowKit Go.Shelf Front Bt Zr Ix Rg
variable {B G l n:Nat} {w0 w5 W:World} {d:Nat->Bool} {t:TypeId} {o:Obj}
attribute [local go_sem] Oper.semAt_some
theorem zMg (a:Option Addr) (n c:Nat) (w:World):
  Calls Tryz.prog 109 #[.slice a n c] w fun e w'=>e= .returned (.func (.func 161) #[] #[.pointer (some ⟨w.heap.size,0,none⟩)])/\w.alloc (.cells #[.slice a n c] 23)=w':=by
 have hmf:∀(fn:Fn) (first cap:Array Value) (w:World),(Instr.makeFunc fn first cap).run Tryz.prog w= .ok (.func fn first cap) w:=fun _ _ _ _=>rfl
 go_enter Tryz.func109,Tryz.ntmps109
 go_wp2
 go_ret
 exact⟨rfl,rfl⟩
structure WI (B G:Nat) (w0 w5:World) (l:List Nat) (n:Nat) (d:Nat->Bool) (W:World):Prop where
 arr:Arr W G 188 (n*2) (gW l d)
 out:Boxed W (G+1) 184 (.slice (some ⟨G,0,none⟩) n n)
 below:Below B w0 W
 size:w5.heap.size<=W.heap.size
theorem WI.keep {W':World} {l:List Nat} (h:WI B G w0 w5 l n d W) (hb:Below W.heap.size W W') (hB:B<=W.heap.size):WI B G w0 w5 l n d W':=
 ⟨(hb.block G h.arr.lt).trans h.arr,(hb.block (G+1) (Boxed.lt h.out)).trans h.out,h.below.trans (hb.mono hB),Nat.le_trans h.size hb.size⟩
theorem qEc {g:Nat->Value} (h:Arr W B t n g) (o':Obj) (hl:W.heap[l]? =some o) (ho:o.isCells=false):Arr (W.putObj l o') B t n g:=by
 refine(World.putObj_heap_other ?_).trans h
 rintro rfl
 rw[show W.heap[B]? =_ from h]at hl
 obtain rfl:=Option.some.inj hl
 cases ho
theorem zBl {cs:Array Value} {f:Nat×Nat} (h:W.heap[B]? =some (.cells cs t f)) (o':Obj) (hl:W.heap[l]? =some o) (ho:o.isCells=false):(W.putObj l o').heap[B]? =some (.cells cs t f):=by
 refine(World.putObj_heap_other ?_).trans h
 rintro rfl
 rw[h]at hl
 obtain rfl:=Option.some.inj hl
 cases ho
theorem WI.put {l0:List Nat} (h:WI B G w0 w5 l0 n d W) (o':Obj) (hl:W.heap[l]? =some o) (ho:o.isCells=false) (hB:B<=l) (hw:B<=W.heap.size):WI B G w0 w5 l0 n d (W.putObj l o'):=
 ⟨qEc h.arr o' hl ho,zA6 h.out o' hl ho,zAu o' h.below hl hB hw,by rw[putObj_size];exact h.size⟩
theorem WI.congr {l:List Nat} {d':Nat->Bool} (h:WI B G w0 w5 l n d W) (e:∀s,s<n->d s=d' s):WI B G w0 w5 l n d' W:=
 ⟨h.arr.congr (fun k hk=>by unfold gW;rw[e (k/2) (by omega)]),h.out,h.below,h.size⟩
def WJ (B G:Nat) (w0 w5:World) (l:List Nat) (n:Nat) (a:Option Addr) (c:Nat) (pre:List Nat) (k:Nat) (vs:Array Value) (ac:Act) (W:World):Prop:=∃(g:Nat) (c' L:Nat) (cs:Array Value) (f:Nat×Nat),
 vs= #[.agg #[.int .i64 (k:Int),.int .u64 (first l k:Int),.slice (some ⟨g,0,none⟩) (cnt l k) c']]/\ac={tmps:= #[.slice a n c,undef,.slice none 0 0,.int .i64 0,.int .i64 0,.pointer (some ⟨G+1,0,none⟩),.pointer (some ⟨L,0,none⟩),undef,undef,.slice a n c,.int .i64 0,.int .i64 0,.bool false,undef,.slice a n c,.int .i64 (n:Int),.slice (some ⟨G,0,none⟩) n n,.slice a n c,.func (.func 161) #[] #[.pointer (some ⟨G+2,0,none⟩)],.agg #[.int .i64 (k:Int),.int .u64 (first l k:Int),.slice (some ⟨g,0,none⟩) (cnt l k) c'],undef,undef,undef,undef,undef,undef,undef,undef,undef,undef,undef,undef,undef,undef,undef,undef,undef,undef,undef,undef,undef],defers:=[]}/\
 W.heap[L]? =some (.cells #[.int .i64 (k:Int),.int .u64 (first l k:Int),.slice (some ⟨g,0,none⟩) (cnt l k) c'] 199 (0,0))/\WI B G w0 w5 l n (dn l pre 0 0) W/\Kit.Src W (some ⟨g,0,none⟩) ((whose l k).map ival)/\W.heap[g]? =some (.cells cs 3 f)/\1<=k/\k<=20/\0<cnt l k
theorem zV7 (l:List Nat) (a:Option Addr) (n c:Nat) (w:World) (hn:l.length=n) (hs:Kit.Src w a (l.map ival)) (ha:∀p,a=some p->p.block<w.heap.size) (hr:Right l):
  Calls Tryz.prog 102 #[.slice a n c] w fun e w'=>∃G,e= .returned (.tuple #[.slice (some ⟨G,0,none⟩) n n,.int .i64 0])/\w.heap.size<=G/\Arr w' G 188 (n*2) (gW l (dn l (lv l 1 20) 0 0))/\Below w.heap.size w w':=by
 have hmf:∀(fn:Fn) (first cap:Array Value) (w:World),(Instr.makeFunc fn first cap).run Tryz.prog w= .ok (.func fn first cap) w:=fun _ _ _ _=>rfl
 obtain⟨B,hB⟩:=zB w.heap.size
 have h258:=hr.most
 rw[hn]at h258
 have HC:=zH (zCk l a n c w hn hs hr)
 have HS:=zH hs
 have HN:=zH hn
 rw[hB]at ha
 have HA:=zH ha
 have HR:=zH hr
 clear hs hn ha hr
 rw[hB]
 refine(callsIn_wide (n:=3)).1 ?_
 refine callsIn_of_wp_marks Tryz.func102 rfl trivial ?_ rfl
 simp only[Tryz.ntmps102,List.size_toArray,List.length_cons,List.length_nil,Nat.reduceAdd,Nat.reduceSub,Array.replicate_succ,Array.replicate_zero,List.push_toArray,List.append_toArray,List.nil_append,List.cons_append]
 gi_wp2_with fail
 refine⟨trivial,(callsIn_wide.2 HC.out).mono ?_⟩
 rintro e w2 ⟨rfl,hb2⟩
 rw[hB]at hb2
 have hz2:B<=w2.heap.size:=by have:=hb2.size;omega
 obtain⟨w3,hmk,ha3,hb3,hz3⟩:=zU2 w2 l n (by omega)
 obtain⟨G,hG⟩:=zB w2.heap.size
 rw[hG]at hmk ha3 hb3 hz3 hz2
 obtain⟨w4,hw4⟩:=zB (w3.alloc (.cells #[.slice (some ⟨G,0,none⟩) n n] 184))
 have hz4:w4.heap.size=G+2:=by rw[<-hw4,zA,hz3]
 have hA4:Arr w4 G 188 (n*2) (gW l (dn l [] 0 0)):=by
  rw[<-hw4]
  exact(Lib.alloc_old w3 _ G (by omega)).trans ha3
 have hO4:Boxed w4 (G+1) 184 (.slice (some ⟨G,0,none⟩) n n):=by
  have:=Boxed.new w3 184 (.slice (some ⟨G,0,none⟩) n n)
  rw[hw4,hz3]at this
  exact this
 obtain⟨w5,hw5⟩:=zB (w4.alloc (.cells #[.slice a n c] 23))
 have hz5:w5.heap.size=G+3:=by rw[<-hw5,zA,hz4]
 have A5:=zH (show Arr w5 G 188 (n*2) (gW l (dn l [] 0 0))from by rw[<-hw5];exact(Lib.alloc_old w4 _ G (by omega)).trans hA4)
 have O5:=zH (show Boxed w5 (G+1) 184 (.slice (some ⟨G,0,none⟩) n n)from by rw[<-hw5];exact hO4.alloc _)
 have X5:=zH (show Boxed w5 (G+2) 23 (.slice a n c)from by
  have:=Boxed.new w4 23 (.slice a n c)
  rw[hw5,hz4]at this
  exact this)
 have B5:=zH (show Below B w w5 from by
  rw[<-hw5,<-hw4]
  exact((hb2.trans (hb3.mono hz2)).alloc (by omega) _).alloc (by simp;omega) _)
 have HL:=zH (zMg a n c w4)
 rw[hz4,hw5]at HL
 clear ha3 hb3 hA4 hO4 hb2 hw5 HC
 gi_wp2_with fail
 clear hmk hw4
 refine⟨trivial,(callsIn_wide.2 HL.out).mono ?_⟩
 rintro e w6 ⟨rfl,rfl⟩
 clear HL
 gi_wp2
 refine zM (gf:=161) (lb:= #[.pointer (some ⟨G+2,0,none⟩)]) rfl (enters_of Tryz.func161 (by kernel_rfl) rfl)
  (LE l) (fun A B=>Below A.heap.size A B) (fun k=>k=G) (lv l 1 20)
  (fun A D h=>⟨h.size,fun k o hk _=>(h.block k (zAd hk)).trans hk⟩)
  (fun _ _ _ h=>by obtain⟨a,c,rfl,_⟩:=h;rfl)
  (fun x W k o o' vs hk ho h=>by
   obtain⟨a,c,h1,h2,⟨g,cs,f,h3,h4⟩,h5⟩:=h
   exact⟨a,c,h1,zG9 h2 o' hk ho,⟨g,cs,f,h3,zBl h4 o' hk ho⟩,h5⟩)
  (fun W hW=>zMf (G+2) a n c l HN.out HR.out _ (by omega) (fun p hp h=>by have:=HA.out p hp;omega) W (fun k hk h=>by have:=hW.size;omega) (zAp X5.out (hW.block _ (by omega))) ((HS.out.below (by rw[hB];exact B5.out)).below hW))
  (fun pre W=>WI B G w w5 l n (dn l pre 0 0) W)
  (fun _ _ _=>False)
  (fun pre W k o o' hk ho hcs hi=>hi.put o' ho hcs (by omega) (by have:=hi.size;omega))
  (fun _ _ _ _ _ _ _ _ _ h=>h)
  (fun pre A D hi ho=>hi.keep ho (by have:=hi.size;omega))
  (fun o o'=>⟨(Lib.alloc_old _ o' G (by rw[zA];omega)).trans ((Lib.alloc_old w5 o G (by omega)).trans A5.out),(O5.out.alloc o).alloc o',(B5.out.alloc (by omega) o).alloc (by simp;omega) o',by simp;omega⟩)
  (WJ B G w w5 l n a c)
  (fun pre x vs ac W k o o' hk ho hcs h=>by
   obtain⟨g,c',L,cs,f,h1,h2,h3,h4,h5,h6,h7⟩:=h
   exact⟨g,c',L,cs,f,h1,h2,zBl h3 o' ho hcs,h4.put o' ho hcs (by omega) (by have:=h4.size;omega),zG9 h5 o' ho hcs,zBl h6 o' ho hcs,h7⟩)
  ?assign ?body ?done ?stop
 case assign=>
  rintro k pre x W vs K hsW hi ⟨a',c',rfl,hsr,⟨g,cs,f,rfl,hg⟩,h1,h2,h3⟩ hK
  obtain⟨F,hF⟩:=zB (first l x)
  obtain⟨m,hm⟩:=zB (cnt l x)
  obtain⟨Wc,hWc⟩:=zB (W.alloc (.cells #[.int .i64 (x:Int),.int .u64 (F:Int),.slice (some ⟨g,0,none⟩) m c'] 199))
  have hbc:Below W.heap.size W Wc:=by rw[<-hWc];exact(Below.refl _ _).alloc (Nat.le_refl _) _
  have hX:Wc.heap[W.heap.size]? =some (.cells #[.int .i64 (x:Int),.int .u64 (F:Int),.slice (some ⟨g,0,none⟩) m c'] 199 (0,0)):=by
   rw[<-hWc]
   show(W.heap.push _)[W.heap.size]? =_
   simp
  have hKK:=fun ac=>hK ac Wc ⟨hbc.size,fun k o hk _=>(hbc.block k (zAd hk)).trans hk⟩ (Sb.below hbc)
  have hsr2:=hsr.below hbc
  have hi2:=hi.keep hbc (by have:=hi.size;omega)
  have hg2:=(hbc.block g (zAd hg)).trans hg
  have HKK:=zH (fun ac h=>hKK ac ⟨g,c',W.heap.size,cs,f,rfl,h,by rw[hF,hm];exact hX,hi2,hsr2,hg2,h1,h2,h3⟩)
  rw[hF,hm]at HKK⊢
  clear hK hKK hi hsr hg hX hsr2 hi2 hg2 hbc
  gi_wp2
  exact HKK.out _ rfl
 case body=>
  rintro k pre x W vs ac hsW ⟨g,c',L,cs,f,rfl,rfl,hL,hi,hsr,hg,h1,h2,h3⟩ hpre
  obtain⟨F,hF⟩:=zB (first l x)
  obtain⟨m,hm⟩:=zB (cnt l x)
  have hLG:L≠G:=by rintro rfl;have:=hi.arr;unfold Arr at this;rw[hL]at this;injection this with this;injection this with _ this _;exact absurd this (by decide)
  have hgG:g≠G:=by rintro rfl;have:=hi.arr;unfold Arr at this;rw[hg]at this;injection this with this;injection this with _ this _;exact absurd this (by decide)
  have hm1:(whose l x).length=m:=hm
  have hkr:=HR.out.zEs x h2
  have hp2:2^x<=2^20:=Nat.pow_le_pow_right (by omega) (by omega)
  rw[hF,hm]at hL hkr⊢
  have HI:=zH hi
  have HGC:=zH (show ∃cs0,W.heap[G]? =some (.cells cs0 188 (0,0))from⟨_,hi.arr⟩)
  have HSR:=zH hsr
  have HGB:=zH hg
  have HLB:=zH hL
  have HF:=zH hF
  have HM:=zH hm
  have HM1:=zH hm1
  obtain⟨y0,y1,y2,_⟩:=cells3 hL
  clear hi hsr hg hL hF hm hm1
  obtain⟨wo,rfl⟩:∃wo:World,wo=W:=⟨_,rfl⟩
  gi_wp2
  clear y0 y1 y2
  gi_loopw [23] (fun iv wr=>∃i:Nat,i<=m/\iv= .int .i64 (i:Int)/\RowKit.Hid (WI B G w w5 l n (dn l pre x i) wr)/\RowKit.Hid (∀k,k≠G->wr.heap[k]? =wo.heap[k]?)/\wr.heap.size=wo.heap.size) (fun iv _=>m-(intOf iv).toNat)
  case atStart=>exact⟨0,by omega,rfl,zH (HI.out.congr (fun s _=>qD8 l pre 0 x s)),zH (fun _ _=>rfl),rfl⟩
  case round=>
   clear HI
   obtain⟨i,him,rfl,hi,hold,hsz⟩:=hrel
   by_cases hlt:i<m
   ·have hil:i<(whose l x).length:=by rw[HM1.out];exact hlt
    obtain⟨q1,q2,q3⟩:=zYt l x i hil
    obtain⟨s0,hs0⟩:=zB ((whose l x)[i])
    rw[hs0]at q1 q2 q3
    obtain⟨g',off,hgo,e0⟩:=HSR.out i (ival s0) (by rw[List.getElem?_map,List.getElem?_eq_getElem hil,hs0];rfl)
    injection hgo with hgo
    injection hgo with e1 e2 _
    subst e1 e2
    have e0':wr.cell? ⟨g,0+i,none⟩=some (ival s0):=by rw[World.cell?_of_block (w:=wo) (a:=⟨g,0+i,none⟩) (hold.out g hgG)];exact e0
    rw[Nat.zero_add]at e0'
    obtain⟨y0,y1,y2,_⟩:=cells3 ((hold.out L hLG).trans HLB.out)
    have yo:=hi.out.out.cell
    have hsn:s0<n:=by rw[<-HN.out];exact q1
    have x0:=hi.out.arr.cell (s0*2) (by omega)
    have x1:=hi.out.arr.cell (s0*2+1) (by omega)
    have f0:=hi.out.arr.free (s0*2)
    have f1:=hi.out.arr.free (s0*2+1)
    obtain⟨u0,hu0⟩:=zB (gW l (dn l pre x i) (s0*2))
    obtain⟨u1,hu1⟩:=zB (gW l (dn l pre x i) (s0*2+1))
    rw[hu0]at x0
    rw[hu1]at x1
    have hwn:zB9 l s0=F+i:=by unfold zB9;rw[q2,q3,HF.out]
    have HST:=zH (show Arr ((wr.setCell ⟨G,s0*2,none⟩ (.int .i64 (x:Int))).setCell ⟨G,s0*2+1,none⟩ (.int .u64 ((F:Int)+(i:Int)))) G 188 (n*2) (gW l (dn l pre x (i+1)))from by
     refine((hi.out.arr.set (s0*2) (.int .i64 (x:Int))).set (s0*2+1) (.int .u64 ((F:Int)+(i:Int)))).congr (fun j hj=> ?_)
     have:=qF4 l (dn l pre x i) s0 j
     rw[q2,hwn,Int.natCast_add,Nat.mul_comm 2 s0]at this
     rw[this]
     unfold gW
     rw[qD9 l pre x i s0 q2 q3 q1 (j/2) (by rw[HN.out];omega)])
    have hx1:(wr.setCell ⟨G,s0*2,none⟩ (.int .i64 (x:Int))).cell? ⟨G,s0*2+1,none⟩=some u1:=by
     rw[World.cell?_setCell_other _ _ _ _ (by intro e;injection e with _ e2 _;omega)];exact x1
    have hf1:(wr.setCell ⟨G,s0*2,none⟩ (.int .i64 (x:Int))).frozen? ⟨G,s0*2+1,none⟩=false:=by rw[World.frozen?_setCell];exact f1
    have j1:IntKind.u64.wrap (i:Int)=(i:Int):=IntWalk.u64_in _ ⟨by omega,by omega⟩
    clear hs0 hu0 hu1 hwn e0 x1 f1 q1 q2 q3 hil
    gi_wp2
    go_roundw
    case rel=>
     refine⟨i+1,by omega,by go_num,zH ⟨HST.out,(zAa (by omega)).trans ((zAa (by omega)).trans hi.out.out),(hi.out.below.setCell (p:=⟨G,s0*2,none⟩) (by omega) _).setCell (p:=⟨G,s0*2+1,none⟩) (by omega) _,by simp[World.setCell];exact hi.out.size⟩,zH (fun k hk=>(zAa hk).trans ((zAa hk).trans (hold.out k hk))),by simp[World.setCell];exact hsz⟩
    case measure=>simp only[intOf];omega
   ·obtain rfl:i=m:=by omega
    gi_wp2
    have hnc:∀(k:Nat) (o:Obj),wo.heap[k]? =some o->o.isCells=false->wr.heap[k]? =some o:=fun k o hk ho=>by
     rw[hold.out k]
     ·exact hk
     ·rintro rfl
      have:=hi.out.arr
      have h2:=zAd hk
      obtain⟨cs0,hcs0⟩:∃cs0,wo.heap[k]? =some (.cells cs0 188 (0,0)):=HGC.out
      rw[hcs0]at hk
      obtain rfl:=Option.some.inj hk
      cases ho
    refine⟨⟨by omega,hnc⟩,⟨by omega,fun k cs t f hk hne=>by rw[hold.out k hne];exact hk⟩,?_⟩
    refine hi.out.congr (fun s hs=> ?_)
    rw[<-HM.out,qA8 l pre x s (by rw[HN.out];exact hs)]
 case done=>
  rintro D W hD hi hK
  have yo:=hi.out.cell
  have HI:=zH hi
  clear hi
  gi_wp2
  refine⟨by simp,.inl ⟨_,_,rfl,run_takeDeferred hK,?_⟩⟩
  have h2:=HI.out.put (.deferred none) hK rfl (by omega) (by have:=HI.out.size;omega)
  refine⟨.tuple #[.slice (some ⟨G,0,none⟩) n n,.int .i64 0],by simp[results,Tryz.f102,go_sem],⟨G,rfl,by omega,h2.arr,h2.below⟩⟩
 case stop=>
  rintro D c pre W _ _ h _
  exact h.elim
end Hf
namespace Ch
open Go.RowKit Go.Shelf Front Bt Zr Ix Rg Hf
variable {w w0 W:World} {D l n c E k B:Nat} {e:TypeId} {xs vs:List Value} {o:Obj} {p:Option Addr} {gs pre:List (List Nat)}
attribute [local go_sem] Oper.semAt_some
abbrev TL_:TypeId:=23
theorem qFj:Kit.One Tryz.prog 60 TL_ 24:=⟨Tryz.underlying60,.slice none 0 0,by kernel_rfl,rfl⟩
theorem zTo {a:Option Addr} (h:Kit.Own w D e a n c xs) (o':Obj) (hl:w.heap[l]? =some o) (ho:o.isCells=false):Kit.Own (w.putObj l o') D e a n c xs:=by
 obtain⟨h1,h2⟩:=h
 refine⟨h1,?_⟩
 rcases h2 with h2|⟨g,cap,cur,hv,hbg,hg,r⟩
 ·exact .inl h2
 ·refine .inr ⟨g,cap,cur,hv,hbg,?_,r⟩
  rw[World.putObj_heap_other]
  ·exact hg
  ·rintro rfl
   rw[hl]at hg
   obtain rfl:=Option.some.inj hg
   cases ho
structure Gr (w:World) (D:Nat) (p:Option Addr) (k c:Nat) (vs:List Value) (gs:List (List Nat)):Prop where
 own:Kit.Own w D TL_ p k c vs
 len:gs.length=k
 each:∀(i:Nat) (g:List Nat),gs[i]? =some g->∃(G c':Nat),vs[i]? =some (Value.slice (some ⟨G,0,none⟩) g.length c')/\g.length<=c'/\Kit.Own w D 3 (some ⟨G,0,none⟩) g.length c' (g.map ival)
theorem Gr.start (w:World) (D:Nat):Gr w D none 0 0 [] []:=⟨Kit.Own.start _ _ _,rfl,fun i g h=>by simp at h⟩
theorem Gr.below {w':World} (h:Gr w D p k c vs gs) (hb:Below E w w') (hE:w.heap.size<=E):Gr w' D p k c vs gs:=
 ⟨h.own.below hb hE,h.len,fun i g hi=>by obtain⟨G,c',h1,h2,h3⟩:=h.each i g hi;exact⟨G,c',h1,h2,h3.below hb hE⟩⟩
theorem Gr.put (h:Gr w D p k c vs gs) (o':Obj) (hl:w.heap[l]? =some o) (ho:o.isCells=false):Gr (w.putObj l o') D p k c vs gs:=
 ⟨zTo h.own o' hl ho,h.len,fun i g hi=>by obtain⟨G,c',h1,h2,h3⟩:=h.each i g hi;exact⟨G,c',h1,h2,zTo h3 o' hl ho⟩⟩
theorem zXc {g:Nat} (h:Kit.Own w D e (some ⟨g,0,none⟩) n c xs):D<=g/\∃cs f,w.heap[g]? =some (.cells cs e f):=by
 rcases h.2 with⟨h1,_⟩|⟨g',cap,cur,hv,hb,hg,_⟩
 ·cases h1
 ·injection hv with hv _ _
  injection hv with hv
  injection hv with hv
  subst hv
  exact⟨hb,_,_,hg⟩
theorem Gr.base (h:Gr w D p k c vs gs) (hE:E<=D):Gr w E p k c vs gs:=
 ⟨h.own.base hE,h.len,fun i g hi=>by obtain⟨G,c',h1,h2,h3⟩:=h.each i g hi;exact⟨G,c',h1,h2,h3.base hE⟩⟩
theorem Gr.set {i:Nat} (h:Gr w D p k c vs gs) (hB:B<D) (v:Value):Gr (w.setCell ⟨B,i,none⟩ v) D p k c vs gs:=by
 have key:∀{e:TypeId} {a:Option Addr} {n c:Nat} {xs:List Value},Kit.Own w D e a n c xs->Kit.Own (w.setCell ⟨B,i,none⟩ v) D e a n c xs:=fun h=>zD4 h hB v
 exact⟨key h.own,h.len,fun i g hi=>by obtain⟨G,c',h1,h2,h3⟩:=h.each i g hi;exact⟨G,c',h1,h2,key h3⟩⟩
theorem Gr.app {G c':Nat} {g:List Nat} (h:Gr w D p k c vs gs) (hg:Kit.Own w D 3 (some ⟨G,0,none⟩) g.length c' (g.map ival)) (hc:g.length<=c') (hk:k<=100000) (hD:D<=w.heap.size):
  ∃p2 c2 w',(Builtin.append_ #[60,60] 60 #[.slice p k c,.slice (some ⟨w.heap.size,0,none⟩) 1 1]).run Tryz.prog (w.alloc (.cells #[.slice (some ⟨G,0,none⟩) g.length c'] TL_))= .ok (.slice p2 (k+1) c2) w'/\
   Gr w' D p2 (k+1) c2 (vs++[.slice (some ⟨G,0,none⟩) g.length c']) (gs++[g])/\Below D w w'/\(∀b,b<w.heap.size->(∀cs f,w.heap[b]?≠some (.cells cs TL_ f))->w'.heap[b]? =w.heap[b]?):=by
 have ho:=h.own.alloc (.cells #[.slice (some ⟨G,0,none⟩) g.length c'] TL_)
 obtain⟨p2,c2,w',h1,h2,h3⟩:=ho.app (ty:=60) qFj (some ⟨w.heap.size,0,none⟩) 1 1 [.slice (some ⟨G,0,none⟩) g.length c'] (Kit.zAs w _ TL_) rfl (fun h=>by cases h) (by intro u hu;simp at hu;subst hu;rfl) (by unfold maxLen;omega) (by omega) (by rw[zA];omega)
 have hb:Below w.heap.size w (w.alloc (.cells #[.slice (some ⟨G,0,none⟩) g.length c'] TL_)):=(Below.refl _ _).alloc (Nat.le_refl _) _
 have hvl:=h.own.len
 have ne:∀{G' c'':Nat} {x:List Nat},Kit.Own w D 3 (some ⟨G',0,none⟩) x.length c'' (x.map ival)->(Value.slice (some ⟨G',0,none⟩) x.length c'').ownBlock≠Value.ownBlock (.slice p k c):=fun{G' c'' x} hx e=>by
  obtain⟨_,cs,f,hcs⟩:=zXc hx
  have e1:(Value.slice p k c).ownBlock=some G':=by rw[<-e];rfl
  obtain⟨_,h4⟩:=h.own
  rcases h4 with⟨h4,_⟩|⟨g',cap,cur,hv,_,hgg,_⟩
  ·injection h4 with h4 _ _
   subst h4
   simp[Value.ownBlock]at e1
  ·injection hv with ha _ _
   subst ha
   simp[Value.ownBlock]at e1
   subst e1
   rw[hcs]at hgg
   injection hgg with hgg
   injection hgg with _ hgg _
   exact absurd hgg (by decide)
 have mv:∀{G' c'':Nat} {x:List Nat},Kit.Own w D 3 (some ⟨G',0,none⟩) x.length c'' (x.map ival)->Kit.Own w' D 3 (some ⟨G',0,none⟩) x.length c'' (x.map ival):=fun hx=>World.ownsRow.kept (hx.alloc (.cells #[.slice (some ⟨G,0,none⟩) g.length c'] TL_)) h3 (.inr (ne hx))
 refine⟨p2,c2,w',h1,⟨h2,by rw[List.length_append,h.len];rfl,fun i x hi=> ?_⟩,?_,fun b hb1 hb2=> ?_⟩
 ·rcases Nat.lt_or_ge i gs.length with hlt|hge
  ·rw[List.getElem?_append_left hlt]at hi
   obtain⟨G',c'',e1,e2,e3⟩:=h.each i x hi
   exact⟨G',c'',by rw[List.getElem?_append_left (by rw[hvl,<-h.len];exact hlt)];exact e1,e2,mv e3⟩
  ·rw[List.getElem?_append_right hge]at hi
   have hi0:i-gs.length=0:=by
    rcases Nat.eq_zero_or_pos (i-gs.length)with h0|h0
    ·exact h0
    ·rw[List.getElem?_eq_none (by simp;omega)]at hi;cases hi
   rw[hi0]at hi
   simp at hi
   subst hi
   have hig:i=gs.length:=by omega
   subst hig
   exact⟨G,c',by rw[List.getElem?_append_right (by rw[hvl,h.len];exact Nat.le_refl _),hvl,h.len,Nat.sub_self];rfl,hc,mv hg⟩
 ·exact(hb.mono hD).trans (Kit.zAq h3 (by rw[zA];omega) (fun b hb'=>ho.block b hb'))
 ·refine(h3.block b (by rw[zA];omega) (fun e=> ?_)).trans (hb.block b hb1)
  obtain⟨_,h4⟩:=h.own
  rcases h4 with⟨h4,_⟩|⟨g',cap,cur,hv,_,hgg,_⟩
  ·injection h4 with h4 _ _
   subst h4
   simp[Value.ownBlock]at e
  ·injection hv with ha _ _
   subst ha
   simp[Value.ownBlock]at e
   subst e
   exact hb2 _ _ hgg
theorem zYg (a:Option Addr) (n c:Nat) (w:World):
  Calls Tryz.prog 100 #[.slice a n c,.int .i64 10] w fun e w'=>e= .returned (.func (.func 160) #[] #[.pointer (some ⟨w.heap.size,0,none⟩),.pointer (some ⟨w.heap.size+1,0,none⟩)])/\(w.alloc (.cells #[.slice a n c] TL_)).alloc (.cells #[.int .i64 10] 3)=w':=by
 have hmf:∀(fn:Fn) (first cap:Array Value) (w:World),(Instr.makeFunc fn first cap).run Tryz.prog w= .ok (.func fn first cap) w:=fun _ _ _ _=>rfl
 go_enter Tryz.func100,Tryz.ntmps100
 go_wp2
 go_ret
 exact⟨rfl,rfl⟩
structure GI (B:Nat) (w0:World) (pre:List (List Nat)) (W:World):Prop where
 h:∃p k c vs,Boxed W B 60 (.slice p k c)/\Gr W (B+3) p k c vs pre
 below:Below B w0 W
 size:B+3<=W.heap.size
theorem GI.put (h:GI B w0 pre W) (o':Obj) (hl:W.heap[l]? =some o) (ho:o.isCells=false) (hB:B<=l):GI B w0 pre (W.putObj l o'):=by
 obtain⟨⟨p,k,c,vs,h1,h2⟩,h3,h4⟩:=h
 exact⟨⟨p,k,c,vs,zA6 h1 o' hl ho,h2.put o' hl ho⟩,zAu o' h3 hl hB (by omega),by rw[putObj_size];exact h4⟩
theorem GI.draw (h:GI B w0 pre W) (n:Nat):GI B w0 pre (W.drewN n):=by
 obtain⟨⟨p,k,c,vs,h1,h2⟩,h3,h4⟩:=h
 exact⟨⟨p,k,c,vs,h1,⟨h2.own,h2.len,h2.each⟩⟩,below_drewN h3 n,h4⟩
theorem GI.grow {W':World} (h:GI B w0 pre W) (hb:Below W.heap.size W W'):GI B w0 pre W':=by
 obtain⟨⟨p,k,c,vs,h1,h2⟩,h3,h4⟩:=h
 exact⟨⟨p,k,c,vs,zAp h1 (hb.block B (by omega)),h2.below hb (Nat.le_refl _)⟩,h3.trans (hb.mono (by have:=h3.size;omega)),Nat.le_trans h4 hb.size⟩
theorem zH8 (m:List Nat) (a:Option Addr) (n c:Nat) (w:World) (hn:m.length=n) (hn2:n<=100000) (hnc:n<=c) (hs:Kit.Src w a (m.map ival)) (ha:∀p,a=some p->p.block<w.heap.size):
  Calls Tryz.prog 29 #[.slice a n c] w fun e w'=>∃p c' vs,e= .returned (.slice p (grp m).length c')/\Gr w' w.heap.size p (grp m).length c' vs (grp m)/\Below w.heap.size w w':=by
 obtain⟨B,hB⟩:=zB w.heap.size
 obtain⟨W1,hW1⟩:=zB (w.alloc (.cells #[.slice none 0 0] 60))
 have z1:W1.heap.size=B+1:=by rw[<-hW1,zA,hB]
 have b1:Below B w W1:=by rw[<-hW1,<-hB];exact(Below.refl _ _).alloc (Nat.le_refl _) _
 have x0:Boxed W1 B 60 (.slice none 0 0):=by rw[<-hW1,<-hB];exact Boxed.new w _ _
 have HQ:=zH (zYg a n c W1)
 obtain⟨W2,hW2⟩:=zB (W1.alloc (.cells #[.slice a n c] TL_))
 obtain⟨W3,hW3⟩:=zB (W2.alloc (.cells #[.int .i64 10] 3))
 have z2:W2.heap.size=B+2:=by rw[<-hW2,zA,z1]
 have z3:W3.heap.size=B+3:=by rw[<-hW3,zA,z2]
 have b2:Below (B+1) W1 W2:=by rw[<-hW2,<-z1];exact(Below.refl _ _).alloc (Nat.le_refl _) _
 have b3:Below (B+2) W2 W3:=by rw[<-hW3,<-z2];exact(Below.refl _ _).alloc (Nat.le_refl _) _
 have y1:Boxed W3 (B+1) TL_ (.slice a n c):=by
  refine zAp ?_ (b3.block _ (by omega))
  rw[<-hW2,<-z1];exact Boxed.new _ _ _
 have y2:Boxed W3 (B+2) 3 (.int .i64 10):=by rw[<-hW3,<-z2];exact Boxed.new _ _ _
 have b13:Below B w W3:=(b1.trans (b2.mono (by omega))).trans (b3.mono (by omega))
 have y0:Boxed W3 B 60 (.slice none 0 0):=zAp (zAp x0 (b2.block _ (by omega))) (b3.block _ (by omega))
 rw[z1,hW2,hW3]at HQ
 have K0:=zH (GI.mk (B:=B) (w0:=w) (pre:=[]) ⟨none,0,0,[],y0,Gr.start _ _⟩ b13 (by omega))
 have Y1:=zH y1
 have Y2:=zH y2
 have S3:=zH (hs.below (by rw[hB];exact b13))
 have HA:=zH (show ∀p,a=some p->¬(p.block=B\/B+3<=p.block)from fun p hp h=>by have:=ha p hp;omega)
 have HN:=zH hn
 have HZ:=zH z3
 clear hn hs ha z1 z2 z3 b1 b2 b3 b13 x0 y0 y1 y2 hW2 hW3
 rw[hB]
 refine(callsIn_wide (n:=3)).1 ?_
 refine callsIn_of_wp_marks Tryz.func29 rfl trivial ?_ rfl
 simp only[Tryz.ntmps29,List.size_toArray,List.length_cons,List.length_nil,Nat.reduceAdd,Nat.reduceSub,Array.replicate_succ,Array.replicate_zero,List.push_toArray,List.append_toArray,List.nil_append,List.cons_append]
 gi_wp2_with fail
 clear hW1
 refine⟨trivial,(callsIn_wide.2 HQ.out).mono ?_⟩
 rintro e w4 ⟨rfl,rfl⟩
 clear HQ hB
 gi_wp2
 refine zDt (gf:=160) (lb:= #[.pointer (some ⟨B+1,0,none⟩),.pointer (some ⟨B+2,0,none⟩)]) rfl (enters_of Tryz.func160 (by kernel_rfl) rfl)
  CE (fun A B=>∃n,B=A.drewN n) (fun k=>k=B\/B+3<=k) (grp m) zKr (fun _ _ _ h=>by obtain⟨a,rfl,_⟩:=h;rfl) (fun x W k o o' vs hk ho h=>by
   obtain⟨a,h1,h2,h3⟩:=h
   exact⟨a,h1,zG9 h2 o' hk ho,h3⟩)
  (fun W hW=>zYf (B+1) (B+2) a n c m HN.out (by omega) hnc _ (by omega) (by omega) HA.out W (zAp Y1.out (hW.block _ (by rw[HZ.out];omega))) (zAp Y2.out (hW.block _ (by rw[HZ.out];omega))) (S3.out.below hW))
  (GI B w)
  (fun _ _ _=>False)
  (fun pre W k o o' hk ho hcs hi=>hi.put o' ho hcs (by rw[HZ.out]at hk;omega))
  (fun _ _ _ _ _ _ _ _ _ h=>h)
  (fun pre A D hi ho=>by obtain⟨m,rfl⟩:=ho;exact hi.draw m)
  (fun o o'=>(K0.out.grow ((Below.refl _ _).alloc (Nat.le_refl _) o)).grow ((Below.refl _ _).alloc (Nat.le_refl _) o'))
  (fun vs=>{tmps:= #[.slice a n c,undef,.pointer (some ⟨B,0,none⟩),vs.getD 0 undef,.slice a n c,.func (.func 160) #[] #[.pointer (some ⟨B+1,0,none⟩),.pointer (some ⟨B+2,0,none⟩)],vs.getD 0 undef,undef,undef,undef,undef,undef,undef],defers:=[]}) ?assign ?body ?done ?stop
 case assign=>
  rintro k x W vs K ⟨i,rfl,_⟩ hK
  gi_wp2
  exact hK
 case body=>
  rintro k pre x W vs hsW hi ⟨a',rfl,hsx,hx0,hx10⟩ hpre
  obtain⟨⟨p,q,c',us,hv,hg⟩,hbl,hz⟩:=hi
  have hq:q<=100000:=by
   have h1:=hg.len
   obtain⟨r,hr⟩:=hpre
   have h2:=congrArg List.length hr
   rw[List.length_append,List.length_append,zBx,HN.out]at h2
   simp at h2
   omega
  have HCL:=zH (Wg.zO6 x a' x.length x.length W.drew rfl (List.length_pos_iff.2 hx0) (by omega) hsx)
  have HV:=zH hv
  have HG:=zH hg
  have HBL:=zH hbl
  have hc0:=hv.cell
  have HX0:=zH (List.length_pos_iff.2 hx0)
  clear hv hg hbl hsx hx0
  gi_wp2
  refine Kit.zKq (by kernel_rfl) (by kernel_rfl) ?_
  refine Kit.zP2 [4,5] (fun W9=>Boxed W9 B 60 (.slice p q c')) [0,0,2,4,13,31] 6 (by kernel_rfl) (by kernel_rfl) (by kernel_rfl) (by kernel_rfl) ?_
  refine zy 0 7 (.slice p q c') (fun w hS=>zl 60 2 (Kit.zAg hS.cell (by kernel_rfl) (by kernel_rfl))) HV.out<|zp [1]<|zk 8 (.slice a' x.length x.length)<|zn<|zx 2 9 101 #[.slice a' x.length x.length] HCL.out<| ?_
  rintro e w5 ⟨G,cc,rfl,ho5,hb5⟩
  have hb5':Below W.heap.size W w5:=(show Below W.heap.size W W.drew from(Below.refl _ _).drew).trans hb5
  have hv5:Boxed w5 B 60 (.slice p q c'):=zAp HV.out (hb5'.block B (by omega))
  have hg5:=HG.out.below hb5' (Nat.le_refl _)
  have ho5':=ho5.base (B':=B+3) hz
  obtain⟨g1,hg1,_,_,hcc,_,_⟩:=ho5.at_ HX0.out
  obtain⟨p2,c2,w6,hr6,hg6,hb6,hk6⟩:=hg5.app ho5' hcc hq (by have:=hb5'.size;omega)
  have hv6:Boxed w6 B 60 (.slice p q c'):=zAp hv5 (hk6 B (by have:=hb5'.size;omega) (fun cs f e=>by rw[show w5.heap[B]? =_ from hv5]at e;injection e with e;injection e with _ e _;exact absurd e (by decide)))
  have st6:=Kit.zDs hv6.cell hv6.frozen (P:=Tryz.prog) (t:=60) (v:= .slice p2 (q+1) c2) (by kernel_rfl) rfl rfl
  have HR6:=zH hr6
  have ST6:=zH st6
  have HV5:=zH (show Boxed (w5.alloc (.cells #[.slice (some ⟨G,0,none⟩) x.length cc] TL_)) B 60 (.slice p q c')from hv5.alloc _)
  refine⟨_,rfl,.inr (.inr hv5),?_⟩
  refine zo 3 10 (.slice (some ⟨w5.heap.size,0,none⟩) 1 1) (by kernel_rfl) (.inr (.inr (HV5.out)))<|zo 4 11 (.slice p2 (q+1) c2) (Kit.zHb (.tmp 7) (.tmp 10) 60 rfl (by kernel_rfl) (by kernel_rfl) HR6.out) (.inr (.inl (by kernel_rfl)))<|zw 5 none (zr 60 2 11 (ST6.out)) (.inr (.inl (by kernel_rfl)))<|zE<| ?_
  simp only[zP,zI,Act.put,List.setIfInBounds_toArray,List.set_cons_zero,List.set_cons_succ]
  rw[show ∀(Q:Exit->Act->World->Prop) (a:Act) (w:World),Kit.zDy Q .normal a w=Q .normal a w from fun _ _ _=>rfl]
  obtain⟨w7,hw7⟩:=zB (w6.setCell ⟨B,0,none⟩ (.slice p2 (q+1) c2))
  have hz5:=hb5'.size
  have hz6:=hb6.size
  have K7:=zH (show KeepsOthers W w7 from by
   rw[<-hw7]
   refine KeepsOthers.trans (B:=w6) ⟨by omega,fun k o hk ho=> ?_⟩ (KeepsOthers.setCell _ _ _)
   have hlt:=zAd hk
   have h5:=(hb5'.block k hlt).trans hk
   refine(hk6 k (zAd h5) (fun cs f e=> ?_)).trans h5
   rw[h5]at e
   injection e with e
   subst e
   cases ho)
  have S7:=zH (show Sb (fun k=>k=B\/B+3<=k) W w7 from by
   rw[<-hw7]
   refine⟨by simp[World.setCell];omega,fun k cs t f hk hc=> ?_⟩
   rw[zAa (by intro e;exact hc (.inl e)),hb6.block k (by omega)]
   exact(hb5'.block k (zAd hk)).trans hk)
  have I7:=zH (show GI B w (pre++[x]) w7 from by
   rw[<-hw7]
   exact⟨⟨p2,q+1,c2,_,hv6.set _,hg6.set (by omega) _⟩,((HBL.out.trans (hb5'.mono (by omega))).trans (hb6.mono (by omega))).setCell (p:=⟨B,0,none⟩) (Nat.le_refl _) _,by simp[World.setCell];omega⟩)
  rw[hw7]
  clear hw7 hv5 hv6 st6 hr6 hg6 hb6 hk6 hg5 ho5 ho5' hb5 hb5' hc0
  gi_wp2
  exact⟨K7.out,S7.out,I7.out⟩
 case done=>
  rintro D W hD ⟨⟨p,k,c',vs,hv,hg⟩,hB2,hz⟩ hK
  have hlen:=hg.len
  subst hlen
  have hc0:=hv.cell
  have hf0:=hv.frozen
  have HV:=zH hv
  have HG:=zH hg
  clear hv hg
  gi_wp2
  have hK':=(KeepsOthers.setCell W ⟨B,0,none⟩ (.slice p (grp m).length c')).same D _ hK rfl
  refine⟨by simp,.inl ⟨_,_,rfl,run_takeDeferred hK',?_⟩⟩
  have hv4:Boxed (W.setCell ⟨B,0,none⟩ (.slice p (grp m).length c')) B 60 (.slice p (grp m).length c'):=HV.out.set _
  have hc4:=(zA6 hv4 (.deferred none) hK' rfl).cell
  refine⟨.slice p (grp m).length c',?_,p,c',vs,rfl,?_,?_⟩
  ·simp[results,Tryz.f29,go_sem,hc4]
  ·exact((HG.out.set (by omega) _).put (.deferred none) hK' rfl).base (by omega)
  ·exact zAu _ (hB2.setCell (p:=⟨B,0,none⟩) (Nat.le_refl _) _) hK' (by rw[HZ.out]at hD;omega) (by simp[World.setCell];omega)
 case stop=>
  rintro D c pre W _ _ h _
  exact h.elim
end Ch
end Go.Proofs.YtppnakkaljbmbaaGreatDoor
