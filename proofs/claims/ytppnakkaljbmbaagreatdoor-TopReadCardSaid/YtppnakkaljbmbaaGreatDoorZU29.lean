/- Steps of a proof; no condition beyond what each states. -/
import Derived.Test.YtppnakkaljbmbaaGreatDoorZU28
set_option linter.unusedVariables false
set_option linter.unusedSimpArgs false
set_option maxRecDepth 100000
set_option maxHeartbeats 8000000
namespace Go.Proofs.YtppnakkaljbmbaaGreatDoor
namespace Hf
open Go.RowKit Go.Shelf Front Bt Zr Ix Rg
variable {l m B a:Nat} {pre:List Nat} {w0 W:World} {s:ByteArray} {o:Obj}
attribute [local go_sem] Oper.semAt_some
theorem zXh (l:List Nat) (n m:Nat):(lv l n m).Pairwise (·<·):=by
 unfold lv
 exact List.Pairwise.filter _ (List.pairwise_lt_range' (step:=1) (by omega))
theorem qFq (l:List Nat) (k:Nat) (h1:1<=k) (h2:k<=20) (h:0<cnt l k):k∈lv l 1 20:=by
 unfold lv
 rw[List.mem_filter,List.mem_range']
 exact⟨⟨k-1,by omega,by omega⟩,by simpa using h⟩
theorem qC9 {l:List Nat} {x:Nat} (hp:pre++[x]<+:lv l 1 20) (hm:m∈lv l 1 20) (hpre:∀k∈pre,k<m):x<=m:=by
 obtain⟨r,hr⟩:=hp
 have hs:=zXh l 1 20
 rw[<-hr]at hs hm
 rcases List.mem_append.1 hm with h|h
 ·rcases List.mem_append.1 h with h|h
  ·exact absurd (hpre _ h) (by omega)
  ·rw[List.mem_singleton]at h;omega
 ·have:=(List.pairwise_append.1 hs).2.2 x (by simp) m h
  omega
structure TI (B:Nat) (w0:World) (s:ByteArray) (at_ m:Nat) (pre:List Nat) (W:World):Prop where
 b0:Boxed W B 9 (.string s)
 b1:Boxed W (B+1) 3 (.int .i64 (at_:Int))
 b2:Boxed W (B+2) 3 (.int .i64 0)
 b3:Boxed W (B+3) 3 (.int .i64 0)
 b4:Boxed W (B+4) 26 (.int .i64 0)
 below:Below B w0 W
 less:∀k∈pre,k<m
 size:B+5<=W.heap.size
theorem TI.keep {W':World} (h:TI B w0 s a m pre W) (hb:Below W.heap.size W W'):TI B w0 s a m pre W':=by
 have hz:=h.size
 exact⟨zAp h.b0 (hb.block _ (by omega)),zAp h.b1 (hb.block _ (by omega)),zAp h.b2 (hb.block _ (by omega)),zAp h.b3 (hb.block _ (by omega)),zAp h.b4 (hb.block _ (by omega)),h.below.trans (hb.mono (by omega)),h.less,Nat.le_trans hz hb.size⟩
theorem TI.put (h:TI B w0 s a m pre W) (o':Obj) (hl:W.heap[l]? =some o) (ho:o.isCells=false) (hB:B<=l) (hw:B<=W.heap.size):TI B w0 s a m pre (W.putObj l o'):=
 ⟨zA6 h.b0 o' hl ho,zA6 h.b1 o' hl ho,zA6 h.b2 o' hl ho,zA6 h.b3 o' hl ho,zA6 h.b4 o' hl ho,zAu o' h.below hl hB hw,h.less,by rw[putObj_size];exact h.size⟩
structure TX (B:Nat) (w0:World) (q j:Nat) (W:World):Prop where
 b2:Boxed W (B+2) 3 (.int .i64 (q:Int))
 b3:Boxed W (B+3) 3 (.int .i64 (j:Int))
 b4:Boxed W (B+4) 26 (.int .i64 0)
 below:Below B w0 W
theorem TX.put {q j:Nat} (h:TX B w0 q j W) (o':Obj) (hl:W.heap[l]? =some o) (ho:o.isCells=false) (hB:B<=l) (hw:B<=W.heap.size):TX B w0 q j (W.putObj l o'):=
 ⟨zA6 h.b2 o' hl ho,zA6 h.b3 o' hl ho,zA6 h.b4 o' hl ho,zAu o' h.below hl hB hw⟩
def TJ (B X:Nat) (w0:World) (l:List Nat) (n:Nat) (a:Option Addr) (c:Nat) (s:ByteArray) (at_ m:Nat) (pre:List Nat) (k:Nat) (vs:Array Value) (ac:Act) (W:World):Prop:=∃(g:Nat) (c' L:Nat) (cs:Array Value) (f:Nat×Nat),
 vs= #[.agg #[.int .i64 (k:Int),.int .u64 (first l k:Int),.slice (some ⟨g,0,none⟩) (cnt l k) c']]/\ac={tmps:= #[.slice a n c,.string s,.int .i64 (at_:Int),undef,.pointer (some ⟨B,0,none⟩),.pointer (some ⟨B+1,0,none⟩),.pointer (some ⟨B+2,0,none⟩),.pointer (some ⟨B+3,0,none⟩),.pointer (some ⟨B+4,0,none⟩),.int .i64 0,.pointer (some ⟨L,0,none⟩),undef,undef,.slice a n c,.int .i64 0,.int .i64 0,.bool false,undef,.slice a n c,.func (.func 161) #[] #[.pointer (some ⟨X,0,none⟩)],.agg #[.int .i64 (k:Int),.int .u64 (first l k:Int),.slice (some ⟨g,0,none⟩) (cnt l k) c'],undef,undef,undef,undef,undef,undef,undef,undef,undef,undef,undef,undef,undef,undef,undef,undef,undef,undef,undef,undef,undef,undef,undef,undef,undef,undef,undef,undef,undef,undef],defers:=[]}/\
 W.heap[L]? =some (.cells #[.int .i64 (k:Int),.int .u64 (first l k:Int),.slice (some ⟨g,0,none⟩) (cnt l k) c'] 199 (0,0))/\TI B w0 s at_ m pre W/\Kit.Src W (some ⟨g,0,none⟩) ((whose l k).map ival)/\W.heap[g]? =some (.cells cs 3 f)/\1<=k/\k<=20/\0<cnt l k
theorem zO2 (l:List Nat) (a:Option Addr) (n c:Nat) (s:ByteArray) (at_ q:Nat) (w:World) (hn:l.length=n) (hs:Kit.Src w a (l.map ival)) (ha:∀p,a=some p->p.block<w.heap.size) (hr:Right l) (hq:q<n) (hsz:s.size<=100000000) (hat:At s at_ (word l q)):
  Calls Tryz.prog 36 #[.slice a n c,.string s,.int .i64 (at_:Int)] w fun e w'=>e= .returned (.tuple #[.int .i64 (q:Int),.int .i64 ((at_+l.getD q 0:Nat):Int),.int .i64 0])/\Below w.heap.size w w':=by
 have hmf:∀(fn:Fn) (first cap:Array Value) (w:World),(Instr.makeFunc fn first cap).run Tryz.prog w= .ok (.func fn first cap) w:=fun _ _ _ _=>rfl
 obtain⟨B,hB⟩:=zB w.heap.size
 have h258:=hr.most
 rw[hn]at h258
 obtain⟨m,hm⟩:=zB (l.getD q 0)
 have hm20:=hr.top _ (zF6 (s:=q) (by omega))
 have hm1:=hr.one _ (zF6 (s:=q) (by omega))
 have hrk:=zJn l q (by omega)
 have hml:=qFq l (l.getD q 0) hm1 hm20 (by omega)
 rw[hm]at hm20 hm1 hrk hml
 obtain⟨J,hJ⟩:=zB (at_+m)
 rw[hm,hJ]
 obtain⟨W1,hW1⟩:=zB (w.alloc (.cells #[.string s] 9))
 obtain⟨W2,hW2⟩:=zB (W1.alloc (.cells #[.int .i64 (at_:Int)] 3))
 obtain⟨W3,hW3⟩:=zB (W2.alloc (.cells #[.int .i64 0] 3))
 obtain⟨W4,hW4⟩:=zB (W3.alloc (.cells #[.int .i64 0] 3))
 obtain⟨W5,hW5⟩:=zB (W4.alloc (.cells #[.int .i64 0] 26))
 have z1:W1.heap.size=B+1:=by rw[<-hW1,zA,hB]
 have z2:W2.heap.size=B+2:=by rw[<-hW2,zA,z1]
 have z3:W3.heap.size=B+3:=by rw[<-hW3,zA,z2]
 have z4:W4.heap.size=B+4:=by rw[<-hW4,zA,z3]
 have z5:W5.heap.size=B+5:=by rw[<-hW5,zA,z4]
 have k0:Boxed W1 B 9 (.string s):=by have:=Boxed.new w 9 (.string s);rwa[hW1,hB]at this
 have k1:Boxed W2 (B+1) 3 (.int .i64 (at_:Int)):=by have:=Boxed.new W1 3 (.int .i64 (at_:Int));rwa[hW2,z1]at this
 have k2:Boxed W3 (B+2) 3 (.int .i64 0):=by have:=Boxed.new W2 3 (.int .i64 0);rwa[hW3,z2]at this
 have k3:Boxed W4 (B+3) 3 (.int .i64 0):=by have:=Boxed.new W3 3 (.int .i64 0);rwa[hW4,z3]at this
 have k4:Boxed W5 (B+4) 26 (.int .i64 0):=by have:=Boxed.new W4 26 (.int .i64 0);rwa[hW5,z4]at this
 have k3:=k3.alloc (.cells #[.int .i64 0] 26);rw[hW5]at k3
 have k2:=(k2.alloc (.cells #[.int .i64 0] 3));rw[hW4]at k2
 have k2:=(k2.alloc (.cells #[.int .i64 0] 26));rw[hW5]at k2
 have k1:=(k1.alloc (.cells #[.int .i64 0] 3));rw[hW3]at k1
 have k1:=(k1.alloc (.cells #[.int .i64 0] 3));rw[hW4]at k1
 have k1:=(k1.alloc (.cells #[.int .i64 0] 26));rw[hW5]at k1
 have k0:=(k0.alloc (.cells #[.int .i64 (at_:Int)] 3));rw[hW2]at k0
 have k0:=(k0.alloc (.cells #[.int .i64 0] 3));rw[hW3]at k0
 have k0:=(k0.alloc (.cells #[.int .i64 0] 3));rw[hW4]at k0
 have k0:=(k0.alloc (.cells #[.int .i64 0] 26));rw[hW5]at k0
 have hb5:Below B w W5:=by
  have b1:Below B w W1:=by rw[<-hW1,<-hB];exact(Below.refl _ _).alloc (Nat.le_refl _) _
  have b2:Below B w W2:=by rw[<-hW2];exact b1.alloc (by omega) _
  have b3:Below B w W3:=by rw[<-hW3];exact b2.alloc (by omega) _
  have b4:Below B w W4:=by rw[<-hW4];exact b3.alloc (by omega) _
  rw[<-hW5];exact b4.alloc (by omega) _
 have K0:=zH (TI.mk (m:=m) (pre:=[]) k0 k1 k2 k3 k4 hb5 (fun k hk=>by cases hk) (by omega))
 have HC:=zH (zCk l a n c W5 hn (hs.below (by rw[hB];exact hb5)) hr)
 have HS:=zH (hs.below (by rw[hB];exact hb5))
 have HN:=zH hn
 rw[hB]at ha
 have HA:=zH ha
 have HR:=zH hr
 have HM:=zH hm
 have HRK:=zH hrk
 have HML:=zH hml
 have HJ:=zH hJ
 have HAT:=zH hat
 have HQ:=zH hq
 clear k0 k1 k2 k3 k4 hb5 hs hn ha hr hm hrk hml hJ hat hq
 rw[hB]
 refine(callsIn_wide (n:=3)).1 ?_
 refine callsIn_of_wp_marks Tryz.func36 rfl trivial ?_ rfl
 simp only[Tryz.ntmps36,List.size_toArray,List.length_cons,List.length_nil,Nat.reduceAdd,Nat.reduceSub,Array.replicate_succ,Array.replicate_zero,List.push_toArray,List.append_toArray,List.nil_append,List.cons_append]
 gi_wp2_with fail
 clear hW1 hW2 hW3 hW4 hW5 z1 z2 z3 z4 hB
 refine⟨trivial,(callsIn_wide.2 HC.out).mono ?_⟩
 rintro e w2 ⟨rfl,hb2⟩
 obtain⟨X,hX⟩:=zB w2.heap.size
 have hXB:B+5<=X:=by have:=hb2.size;omega
 have K2:=zH (K0.out.keep hb2)
 have S2:=zH (HS.out.below hb2)
 obtain⟨w3,hw3⟩:=zB (w2.alloc (.cells #[.slice a n c] 23))
 have hz3:w3.heap.size=X+1:=by rw[<-hw3,zA,hX]
 have X3:=zH (show Boxed w3 X 23 (.slice a n c)from by
  have:=Boxed.new w2 23 (.slice a n c)
  rw[hw3,hX]at this
  exact this)
 have hb3:Below w2.heap.size w2 w3:=by rw[<-hw3];exact(Below.refl _ _).alloc (Nat.le_refl _) _
 have K3:=zH (K2.out.keep hb3)
 have S3:=zH (S2.out.below hb3)
 have HL:=zH (zMg a n c w2)
 rw[hX,hw3]at HL
 clear hb2 hb3 K0 K2 S2 HC HS z5
 gi_wp2_with fail
 clear hX hw3
 refine⟨trivial,(callsIn_wide.2 HL.out).mono ?_⟩
 rintro e w6 ⟨rfl,rfl⟩
 clear HL
 gi_wp2
 refine zM (gf:=161) (lb:= #[.pointer (some ⟨X,0,none⟩)]) rfl (enters_of Tryz.func161 (by kernel_rfl) rfl)
  (LE l) (fun A B=>Below A.heap.size A B) (fun _=>False) (lv l 1 20)
  (fun A D h=>⟨h.size,fun k o hk _=>(h.block k (zAd hk)).trans hk⟩)
  (fun _ _ _ h=>by obtain⟨a,c,rfl,_⟩:=h;rfl)
  (fun x W k o o' vs hk ho h=>by
   obtain⟨a,c,h1,h2,⟨g,cs,f,h3,h4⟩,h5⟩:=h
   exact⟨a,c,h1,zG9 h2 o' hk ho,⟨g,cs,f,h3,zBl h4 o' hk ho⟩,h5⟩)
  (fun W hW=>zMf X a n c l HN.out HR.out _ (fun h=>h) (fun p hp h=>h) W (fun k hk h=>h) (zAp X3.out (hW.block _ (by omega))) (S3.out.below hW))
  (TI B w s at_ m)
  (fun c _ W=>c= .ret/\TX B w q J W)
  (fun pre W k o o' hk ho hcs hi=>hi.put o' ho hcs (by omega) (by have:=hi.size;omega))
  (fun c pre W k o o' hk ho hcs hi=>⟨hi.1,hi.2.put o' ho hcs (by omega) (by have:=zAd ho;omega)⟩)
  (fun pre A D hi ho=>hi.keep ho)
  (fun o o'=>(K3.out.keep ((Below.refl _ _).alloc (Nat.le_refl _) o)).keep ((Below.refl _ _).alloc (Nat.le_refl _) o'))
  (TJ B X w l n a c s at_ m)
  (fun pre x vs ac W k o o' hk ho hcs h=>by
   obtain⟨g,c',L,cs,f,h1,h2,h3,h4,h5,h6,h7⟩:=h
   exact⟨g,c',L,cs,f,h1,h2,zBl h3 o' ho hcs,h4.put o' ho hcs (by omega) (by have:=h4.size;omega),zG9 h5 o' ho hcs,zBl h6 o' ho hcs,h7⟩)
  ?assign ?body ?done ?stop
 case assign=>
  rintro k pre x W vs K hsW hi ⟨a',c',rfl,hsr,⟨g,cs,f,rfl,hg⟩,h1,h2,h3⟩ hK
  obtain⟨F,hF⟩:=zB (first l x)
  obtain⟨mm,hm⟩:=zB (cnt l x)
  obtain⟨Wc,hWc⟩:=zB (W.alloc (.cells #[.int .i64 (x:Int),.int .u64 (F:Int),.slice (some ⟨g,0,none⟩) mm c'] 199))
  have hbc:Below W.heap.size W Wc:=by rw[<-hWc];exact(Below.refl _ _).alloc (Nat.le_refl _) _
  have hX:Wc.heap[W.heap.size]? =some (.cells #[.int .i64 (x:Int),.int .u64 (F:Int),.slice (some ⟨g,0,none⟩) mm c'] 199 (0,0)):=by
   rw[<-hWc]
   show(W.heap.push _)[W.heap.size]? =_
   simp
  have hKK:=fun ac=>hK ac Wc ⟨hbc.size,fun k o hk _=>(hbc.block k (zAd hk)).trans hk⟩ (Sb.below hbc)
  have hsr2:=hsr.below hbc
  have hi2:=hi.keep hbc
  have hg2:=(hbc.block g (zAd hg)).trans hg
  have HKK:=zH (fun ac h=>hKK ac ⟨g,c',W.heap.size,cs,f,rfl,h,by rw[hF,hm];exact hX,hi2,hsr2,hg2,h1,h2,h3⟩)
  rw[hF,hm]at HKK⊢
  clear hK hKK hi hsr hg hX hsr2 hi2 hg2 hbc
  gi_wp2
  exact HKK.out _ rfl
 case body=>
  rintro k pre x W vs ac hsW ⟨g,c',L,cs,f,rfl,rfl,hL,hi,hsr,hg,h1,h2,h3⟩ hpre
  have hxm:=qC9 hpre HML.out hi.less
  obtain⟨F,hF⟩:=zB (first l x)
  obtain⟨mm,hmm⟩:=zB (cnt l x)
  have hkr:=HR.out.zEs x h2
  have hp2:2^x<=2^20:=Nat.pow_le_pow_right (by omega) (by omega)
  have hal:=HAT.out.1
  rw[zCu,HM.out]at hal
  have hvl:=zEy (take s at_ x)
  rw[take_length]at hvl
  have htk:take s at_ x=(word l q).take x:=by
   have:=HAT.out.2
   rw[zCu,HM.out]at this
   rw[<-this]
   unfold take
   rw[<-List.map_take,List.take_range,Nat.min_eq_left hxm]
  have hv1:=zPh HR.out q (by rw[HN.out];exact HQ.out) x (by rw[HM.out];exact hxm)
  rw[<-htk]at hv1
  have hpf:=fun(h:x<m)=>zSc HR.out q (by rw[HN.out];exact HQ.out) x (by rw[HM.out];exact h)
  have hG:=zB7 s at_ x (by omega) (by omega) (by omega) W
  obtain⟨v,hv⟩:=zB (val (take s at_ x))
  rw[hv]at hv1 hvl hG
  rw[<-hv1]at hpf
  rw[hF,hmm]at hL hkr hpf⊢
  have hne:∀j:Nat,(∃(t:TypeId) (v:Value),Boxed W j t v)->¬L=j/\¬j=L:=by
   rintro j ⟨t,v',h⟩
   have:¬L=j:=by rintro rfl;rw[show W.heap[L]? =_ from h]at hL;injection hL with hL;injection hL with hL _ _;have:=congrArg Array.size hL;simp at this
   exact⟨this,fun h=>this h.symm⟩
  have HN1:=zH (hne (B+2) ⟨_,_,hi.b2⟩)
  have HN2:=zH (hne (B+3) ⟨_,_,hi.b3⟩)
  have HN3:=zH (hne (B+4) ⟨_,_,hi.b4⟩)
  clear hne
  have HG:=zH hG
  have HPF:=zH hpf
  have HV1:=zH hv1
  have HI:=zH hi
  have HSR:=zH hsr
  have HGB:=zH hg
  have HF:=zH hF
  have HMM:=zH hmm
  obtain⟨y0,y1,y2,_⟩:=cells3 hL
  have u0:=hi.b0.cell
  have u1:=hi.b1.cell
  have u2:=hi.b2.cell
  have u3:=hi.b3.cell
  have u4:=hi.b4.cell
  have f2:=hi.b2.frozen
  have f3:=hi.b3.frozen
  have f4:=hi.b4.frozen
  have HP:=zH hpre
  clear hL hi hsr hg hF hmm hv hpf hv1 hG htk hal
  gi_wp2_with fail
  refine⟨trivial,(CallsIn.inRound k (callsIn_wide.2 HG.out)).mono ?_⟩
  rintro e w7 ⟨rfl,rfl⟩
  clear HG
  have j0:IntKind.u64.wrap (mm:Int)=(mm:Int):=IntWalk.u64_in _ ⟨by omega,by omega⟩
  by_cases hlt:x<m
  ·have hge:=HPF.out hlt
   have j1:IntKind.u64.wrap ((v:Int)-(F:Int))=(v:Int)-(F:Int):=IntWalk.u64_in _ ⟨by omega,by omega⟩
   have j2:decide ((v:Int)-(F:Int)<(mm:Int))=false:=decide_eq_false (by omega)
   clear hge
   gi_wp2
   refine⟨⟨Nat.le_refl _,fun _ _ h _=>h⟩,Sb.refl _ _,?_⟩
   have hi:=HI.out
   exact⟨hi.b0,hi.b1,hi.b2,hi.b3,hi.b4,hi.below,fun k hk=>by
    rcases List.mem_append.1 hk with h|h
    ·exact hi.less k h
    ·rw[List.mem_singleton]at h;omega,hi.size⟩
  ·obtain rfl:x=m:=by omega
   obtain⟨r,hr⟩:=zB (rank l q)
   have hrk:=HRK.out
   have hvr:v=F+r:=by
    have:=HV1.out
    rw[HM.out,Nat.sub_self,Nat.pow_zero,Nat.div_one]at this
    rw[this];unfold zB9;rw[HM.out,HF.out,hr]
   rw[hr,HMM.out]at hrk
   have hwr:(whose l x)[r]? =some q:=by
    have:=zDx l q (by rw[HN.out];exact HQ.out)
    rwa[HM.out,hr]at this
   obtain⟨g',off,hgo,e0⟩:=HSR.out r (ival q) (by rw[List.getElem?_map,hwr];rfl)
   injection hgo with hgo
   injection hgo with e1 e2 _
   subst e1 e2
   rw[Nat.zero_add]at e0
   have j1:IntKind.u64.wrap ((v:Int)-(F:Int))=(r:Int):=by rw[hvr];rw[show((F+r:Nat):Int)-(F:Int)=(r:Int)by omega];exact IntWalk.u64_in _ ⟨by omega,by omega⟩
   have j3:(v:Int)-(F:Int)=(r:Int):=by omega
   have hri:(r:Int)<(mm:Int):=by omega
   have hx20:(x:Int)<=20:=by omega
   have hatI:(at_:Int)<=900000000:=by have:=HAT.out.1;omega
   have HJI:=zH (show(at_:Int)+(x:Int)=(J:Int)by have:=HJ.out;omega)
   have HVR:=zH hvr
   clear hr hwr hvr
   gi_wp2
   obtain⟨n1,_⟩:=HN1.out
   obtain⟨n2,_⟩:=HN2.out
   obtain⟨n3,_⟩:=HN3.out
   refine Kit.zRj (S:=fun w'=>w'.cell? ⟨L,2,none⟩=some (.slice (some ⟨g,0,none⟩) mm c')/\w'.cell? ⟨L,0,none⟩=some (.int .i64 (x:Int))/\w'.cell? ⟨B+1,0,none⟩=some (.int .i64 (at_:Int))) (by kernel_rfl) (by kernel_rfl) ⟨y2,y0,u1⟩ (fun hHeld=> ?_)
   refine wpAnyH_take (i:=0) (v:= .pointer (some ⟨L,2,none⟩)) rfl (by kernel_rfl) (by kernel_rfl) (by kernel_rfl) (fun _ _ _ h=>h) (Or.inl ⟨by rfl,fun w hSw=>by(obtain⟨w0,w1,w2⟩:=hSw;go_simp)⟩) hHeld ?_
   try simp only[List.getElem_toArray,List.getElem_cons_succ,List.getElem_cons_zero,Act.put,List.setIfInBounds_toArray,List.set_cons_zero,List.set_cons_succ]
   refine wpAnyH_take (i:=1) (v:= .slice (some ⟨g,0,none⟩) mm c') rfl (by kernel_rfl) (by kernel_rfl) (by kernel_rfl) (fun _ _ _ h=>h) (Or.inl ⟨by rfl,fun w hSw=>by(obtain⟨w0,w1,w2⟩:=hSw;go_simp)⟩) hHeld ?_
   try simp only[List.getElem_toArray,List.getElem_cons_succ,List.getElem_cons_zero,Act.put,List.setIfInBounds_toArray,List.set_cons_zero,List.set_cons_succ]
   refine wpAnyH_take (i:=2) (v:= .int .u64 (r:Int)) rfl (by kernel_rfl) (by kernel_rfl) (by kernel_rfl) (fun _ _ _ h=>h) (Or.inl ⟨by rfl,fun w hSw=>by(obtain⟨w0,w1,w2⟩:=hSw;go_simp)⟩) hHeld ?_
   try simp only[List.getElem_toArray,List.getElem_cons_succ,List.getElem_cons_zero,Act.put,List.setIfInBounds_toArray,List.set_cons_zero,List.set_cons_succ]
   refine wpAnyH_take (i:=3) (v:= .pointer (some ⟨g,r,none⟩)) rfl (by kernel_rfl) (by kernel_rfl) (by kernel_rfl) (fun _ _ _ h=>h) (Or.inl ⟨by rfl,fun w hSw=>by(obtain⟨w0,w1,w2⟩:=hSw;go_simp)⟩) hHeld ?_
   try simp only[List.getElem_toArray,List.getElem_cons_succ,List.getElem_cons_zero,Act.put,List.setIfInBounds_toArray,List.set_cons_zero,List.set_cons_succ]
   refine wpAnyH_take (i:=5) (v:= .int .i64 (at_:Int)) rfl (by kernel_rfl) (by kernel_rfl) (by kernel_rfl) (fun _ _ _ h=>h) (Or.inl ⟨by rfl,fun w hSw=>by(obtain⟨w0,w1,w2⟩:=hSw;go_simp)⟩) hHeld ?_
   try simp only[List.getElem_toArray,List.getElem_cons_succ,List.getElem_cons_zero,Act.put,List.setIfInBounds_toArray,List.set_cons_zero,List.set_cons_succ]
   refine wpAnyH_take (i:=6) (v:= .pointer (some ⟨L,0,none⟩)) rfl (by kernel_rfl) (by kernel_rfl) (by kernel_rfl) (fun _ _ _ h=>h) (Or.inl ⟨by rfl,fun w hSw=>by(obtain⟨w0,w1,w2⟩:=hSw;go_simp)⟩) hHeld ?_
   try simp only[List.getElem_toArray,List.getElem_cons_succ,List.getElem_cons_zero,Act.put,List.setIfInBounds_toArray,List.set_cons_zero,List.set_cons_succ]
   refine wpAnyH_take (i:=7) (v:= .int .i64 (x:Int)) rfl (by kernel_rfl) (by kernel_rfl) (by kernel_rfl) (fun _ _ _ h=>h) (Or.inl ⟨by rfl,fun w hSw=>by(obtain⟨w0,w1,w2⟩:=hSw;go_simp)⟩) hHeld ?_
   try simp only[List.getElem_toArray,List.getElem_cons_succ,List.getElem_cons_zero,Act.put,List.setIfInBounds_toArray,List.set_cons_zero,List.set_cons_succ]
   refine wpAnyH_take (i:=8) (v:= .int .i64 (J:Int)) rfl (by kernel_rfl) (by kernel_rfl) (by kernel_rfl) (fun _ _ _ h=>h) (Or.inl ⟨by rfl,fun w hSw=>by(obtain⟨w0,w1,w2⟩:=hSw;go_simp;rw[HJI.out];have:=HJI.out;exact IntWalk.i64_in _ ⟨by omega,by omega⟩)⟩) hHeld ?_
   try simp only[List.getElem_toArray,List.getElem_cons_succ,List.getElem_cons_zero,Act.put,List.setIfInBounds_toArray,List.set_cons_zero,List.set_cons_succ]
   have hi:=HI.out
   have ll:(loadVar 3 ⟨g,r,none⟩).run Tryz.prog W.drew= .ok (.int .i64 (q:Int)) W.drew:=by
    have e0':W.drew.cell? ⟨g,r,none⟩=some (.int .i64 (q:Int)):=e0
    simp[loadVar,go_sem,e0']
   refine Kit.zX8 4 (ty:=3) (x:= .tmp 45) (d:=some 46) (g:=⟨g,r,none⟩) (v:= .int .i64 (q:Int)) (by kernel_rfl) (by kernel_rfl) (by kernel_rfl) (by kernel_rfl) ll hHeld ?_
   have sto:∀(V:World) (j:Nat) (t:TypeId) (v0:Value) (k:Int),(Tryz.prog.info? t).map (·.size)=some 1->Boxed V j t v0->(storeVar t ⟨j,0,none⟩ (.int .i64 k)).run Tryz.prog V= .ok () (V.setCell ⟨j,0,none⟩ (.int .i64 k)):=by
    intro V j t v0 k ht hb
    have c:=hb.cell
    have f:=hb.frozen
    cases hq:Tryz.prog.info? t with
    |none=>simp[hq]at ht
    |some i=>
     have h1:i.size=1:=by simpa [hq]using ht
     simp[storeVar,sizeOf,typeInfo,hq,h1,go_sem,c,f]
   have q2:Boxed W.drew (B+2) 3 (.int .i64 0):=hi.b2
   have q3:Boxed (W.drew.setCell ⟨B+2,0,none⟩ (.int .i64 (q:Int))) (B+3) 3 (.int .i64 0):=(zAa (by omega)).trans hi.b3
   have q4:Boxed ((W.drew.setCell ⟨B+2,0,none⟩ (.int .i64 (q:Int))).setCell ⟨B+3,0,none⟩ (.int .i64 (J:Int))) (B+4) 26 (.int .i64 0):=(zAa (by omega)).trans ((zAa (by omega)).trans hi.b4)
   have keep:∀(V:World) (j:Nat) (v:Value),¬L=j->¬B+1=j->(V.cell? ⟨L,2,none⟩=some (.slice (some ⟨g,0,none⟩) mm c')/\V.cell? ⟨L,0,none⟩=some (.int .i64 (x:Int))/\V.cell? ⟨B+1,0,none⟩=some (.int .i64 (at_:Int)))->((V.setCell ⟨j,0,none⟩ v).cell? ⟨L,2,none⟩=some (.slice (some ⟨g,0,none⟩) mm c')/\(V.setCell ⟨j,0,none⟩ v).cell? ⟨L,0,none⟩=some (.int .i64 (x:Int))/\(V.setCell ⟨j,0,none⟩ v).cell? ⟨B+1,0,none⟩=some (.int .i64 (at_:Int))):=by
    rintro V j v h1 h2 ⟨a1,a2,a3⟩
    exact⟨(World.cell?_of_block (zAa h1)).trans a1,(World.cell?_of_block (zAa h1)).trans a2,(World.cell?_of_block (zAa h2)).trans a3⟩
   refine Kit.zH9 9 (ty:=3) (x:= .tmp 6) (y:= .tmp 46) (g:=⟨B+2,0,none⟩) (v:= .int .i64 (q:Int)) (by kernel_rfl) (by kernel_rfl) (by kernel_rfl) (by kernel_rfl) (by kernel_rfl) (sto _ _ _ _ _ (by kernel_rfl) q2) (keep _ _ _ n1 (by omega) hHeld) (fun hHeld=> ?_)
   refine Kit.zH9 10 (ty:=3) (x:= .tmp 7) (y:= .tmp 50) (g:=⟨B+3,0,none⟩) (v:= .int .i64 (J:Int)) (by kernel_rfl) (by kernel_rfl) (by kernel_rfl) (by kernel_rfl) (by kernel_rfl) (sto _ _ _ _ _ (by kernel_rfl) q3) (keep _ _ _ n2 (by omega) hHeld) (fun hHeld=> ?_)
   refine Kit.zH9 11 (ty:=26) (x:= .tmp 8) (y:= .const (.int .i64 0)) (g:=⟨B+4,0,none⟩) (v:= .int .i64 0) (by kernel_rfl) (by kernel_rfl) (by kernel_rfl) (by kernel_rfl) (by kernel_rfl) (sto _ _ _ _ _ (by kernel_rfl) q4) (keep _ _ _ n3 (by omega) hHeld) (fun hHeld=> ?_)
   refine wpAnyH_done (by kernel_rfl) ?_ _
   obtain⟨F',hF'⟩:=zB (((W.drew.setCell ⟨B+2,0,none⟩ (.int .i64 (q:Int))).setCell ⟨B+3,0,none⟩ (.int .i64 (J:Int))).setCell ⟨B+4,0,none⟩ (.int .i64 0))
   have TF:=zH (show TX B w q J F' from by
    rw[<-hF']
    exact⟨(zAa (by omega)).trans ((zAa (by omega)).trans (Boxed.set (.int .i64 (q:Int)) q2)),(zAa (by omega)).trans (Boxed.set (.int .i64 (J:Int)) q3),Boxed.set (.int .i64 0) q4,
     ((hi.below.drew.setCell (p:=⟨B+2,0,none⟩) (by simp) _).setCell (p:=⟨B+3,0,none⟩) (by simp) _).setCell (p:=⟨B+4,0,none⟩) (by simp) _⟩)
   have KF:=zH (show KeepsOthers W F' from by
    rw[<-hF']
    exact(((KeepsOthers.drew W).trans (KeepsOthers.setCell _ _ _)).trans (KeepsOthers.setCell _ _ _)).trans (KeepsOthers.setCell _ _ _))
   rw[hF']
   clear hF' q2 q3 q4 sto keep hHeld ll hi e0 y0 y1 y2 u0 u1 u2 u3 u4 f2 f3 f4
   rw[show ∀(Q:Exit->Act->World->Prop) (a:Act) (w:World),Kit.zDy Q .normal a w=Q .normal a w from fun _ _ _=>rfl]
   gi_wp2
   exact⟨KF.out,rfl,TF.out⟩
 case done=>
  rintro D W hD hi hK
  exact absurd (hi.less m HML.out) (by omega)
 case stop=>
  rintro D c pre W hD _ ⟨rfl,h⟩ hK
  have yo:=h.b2.cell
  have yo:=h.b3.cell
  have yo:=h.b4.cell
  have HI:=zH h
  clear h
  gi_wp2
  have h2:=HI.out.put (.deferred none) hK rfl (by omega) (by have:=zAd hK;omega)
  refine⟨by simp,.inl ⟨_,_,rfl,run_takeDeferred hK,?_⟩⟩
  have z2:=h2.b2.cell
  have z3:=h2.b3.cell
  have z4:=h2.b4.cell
  exact⟨.tuple #[.int .i64 (q:Int),.int .i64 (J:Int),.int .i64 0],by simp[results,Tryz.f36,go_sem,z2,z3,z4],⟨rfl,h2.below⟩⟩
end Hf
namespace Bk
open Go.RowKit Hf Bt Zr Ix Front Wg Ch Sl Sq Us St Tn
abbrev TRd:TypeId:=409
structure Rx where
 a:ByteArray
 i:Nat
 t:Option Addr
 tn:Nat
 tc:Nat
 c:Option Addr
 cn:Nat
 cc:Nat
 codes:Nat
def RD (w:World) (R:Nat) (x:Rx):Prop:=w.heap[R]? =some (.cells #[.string x.a,.int .i64 (x.i:Int),.slice x.t x.tn x.tc,.slice x.c x.cn x.cc,.int .i64 (x.codes:Int)] TRd (0,0))
section
variable {w w':World} {R:Nat} {x:Rx}
theorem RD.lt (h:RD w R x):R<w.heap.size:=zAd h
theorem RD.keep (h:RD w R x) (e:w'.heap[R]? =w.heap[R]?):RD w' R x:=e.trans h
theorem RD.below (h:RD w R x) (hb:Below w.heap.size w w'):RD w' R x:=h.keep (hb.block R h.lt)
theorem RD.c0 (h:RD w R x):w.cell? ⟨R,0,none⟩=some (.string x.a):=by unfold RD at h;simp[World.cell?,h]
theorem RD.c1 (h:RD w R x):w.cell? ⟨R,1,none⟩=some (.int .i64 (x.i:Int)):=by unfold RD at h;simp[World.cell?,h]
theorem RD.c2 (h:RD w R x):w.cell? ⟨R,2,none⟩=some (.slice x.t x.tn x.tc):=by unfold RD at h;simp[World.cell?,h]
theorem RD.c3 (h:RD w R x):w.cell? ⟨R,3,none⟩=some (.slice x.c x.cn x.cc):=by unfold RD at h;simp[World.cell?,h]
theorem RD.c4 (h:RD w R x):w.cell? ⟨R,4,none⟩=some (.int .i64 (x.codes:Int)):=by unfold RD at h;simp[World.cell?,h]
theorem RD.fr (h:RD w R x) (i:Nat):w.frozen? ⟨R,i,none⟩=false:=by unfold RD at h;simp[World.frozen?,h]
theorem RD.l0 (h:RD w R x):(loadVar 9 ⟨R,0,none⟩).run Tryz.prog w= .ok (.string x.a) w:=Kit.zAg h.c0 (by kernel_rfl) (by kernel_rfl)
theorem RD.l1 (h:RD w R x):(loadVar 3 ⟨R,1,none⟩).run Tryz.prog w= .ok (.int .i64 (x.i:Int)) w:=Kit.zAg h.c1 (by kernel_rfl) (by kernel_rfl)
theorem RD.l2 (h:RD w R x):(loadVar 60 ⟨R,2,none⟩).run Tryz.prog w= .ok (.slice x.t x.tn x.tc) w:=Kit.zAg h.c2 (by kernel_rfl) (by kernel_rfl)
theorem RD.l3 (h:RD w R x):(loadVar 23 ⟨R,3,none⟩).run Tryz.prog w= .ok (.slice x.c x.cn x.cc) w:=Kit.zAg h.c3 (by kernel_rfl) (by kernel_rfl)
theorem RD.l4 (h:RD w R x):(loadVar 3 ⟨R,4,none⟩).run Tryz.prog w= .ok (.int .i64 (x.codes:Int)) w:=Kit.zAg h.c4 (by kernel_rfl) (by kernel_rfl)
theorem RD.s1 (h:RD w R x) (j:Nat) {V:Int} (hV:V=(j:Int)):RD (w.setCell ⟨R,1,none⟩ (.int .i64 V)) R {x with i:=j}:=by
 subst hV;unfold RD at*;simp[World.setCell,Array.getElem?_modify,h]
theorem RD.s2 (h:RD w R x) (t:Option Addr) (n c:Nat):RD (w.setCell ⟨R,2,none⟩ (.slice t n c)) R {x with t:=t,tn:=n,tc:=c}:=by
 unfold RD at*;simp[World.setCell,Array.getElem?_modify,h]
theorem RD.s3 (h:RD w R x) (t:Option Addr) (n c:Nat):RD (w.setCell ⟨R,3,none⟩ (.slice t n c)) R {x with c:=t,cn:=n,cc:=c}:=by
 unfold RD at*;simp[World.setCell,Array.getElem?_modify,h]
theorem RD.s4 (h:RD w R x) (j:Nat) {V:Int} (hV:V=(j:Int)):RD (w.setCell ⟨R,4,none⟩ (.int .i64 V)) R {x with codes:=j}:=by
 subst hV;unfold RD at*;simp[World.setCell,Array.getElem?_modify,h]
end
theorem zPn (w:World):Calls Tryz.prog 320 #[.int .i64 0] w fun e w'=>e= .returned (.tuple #[])/\w'=w:=by
 go_enter Tryz.func320,Tryz.ntmps320
 go_wp2
 go_end0
 exact⟨rfl,rfl⟩
theorem zJv (e:Int) (w:World):Calls Tryz.prog 286 #[.bool true,.int .i64 e] w fun e w'=>e= .returned (.tuple #[])/\w'=w:=by
 go_enter Tryz.func286,Tryz.ntmps286
 go_wp2
 go_end0
 exact⟨rfl,rfl⟩
theorem zIc (R j:Nat) (x:Rx) (w:World) (h:RD w R x):
  Calls Tryz.prog 316 #[.pointer (some ⟨R,0,none⟩),.int .i64 (j:Int),.int .i64 0] w fun e w'=>e= .returned (.tuple #[])/\RD w' R {x with i:=j}/\Upd w w' R:=by
 have HO:=zH (fun W=>zPn W)
 have x1:=h.c1
 have f1:=h.fr 1
 have H:=zH (And.intro (h.s1 j rfl) (Upd.set (w:=w) (K:=R) (i:=1) (v:= .int .i64 (j:Int))))
 clear h
 go_enter Tryz.func316,Tryz.ntmps316
 go_wp2_with fail
 (with_reducible refine(HO.out _).mono ?_)
 rintro e w2 ⟨rfl,rfl⟩
 go_wp2
 go_end0
 exact⟨rfl,H.out.1,H.out.2⟩
theorem zFx (R n v:Nat) (x:Rx) (N:Int) (hN:N=(n:Int)) (w:World) (h:RD w R x) (hn:n<=62) (hi:x.i+n<=8*x.a.size) (hs:x.a.size<=100000000) (hv:val (take x.a x.i n)=v):
  Calls Tryz.prog 315 #[.pointer (some ⟨R,0,none⟩),.int .i64 N] w fun e w'=>e= .returned (.int .i64 (v:Int))/\RD w' R {x with i:=x.i+n}/\Upd w w' R:=by
 subst hN
 have hv3:v<4611686018427387904:=by
  have h1:=zEy (take x.a x.i n)
  rw[take_length]at h1
  have h2:(2:Nat)^n<=2^62:=Nat.pow_le_pow_right (by omega) hn
  omega
 have HG:=zH (fun W=>(zB7 x.a x.i n (by omega) hi (by omega) W).mono (fun _ _ h=>(⟨h.1,h.2.symm⟩:_/\_)))
 rw[hv]at HG
 have HO:=zH (fun W=>zPn W)
 have x0:=h.c0
 have x1:=h.c1
 have f1:=h.fr 1
 have H:=zH (fun(q:Nat)=>And.intro (RD.s1 (w:=w.drewN q) (show RD (w.drewN q) R x from h) (x.i+n) (V:=(x.i:Int)+(n:Int)) (by omega)) ((show Upd w (w.drewN q) R from⟨fun _ _ _=>rfl,⟨rfl,rfl,rfl,Nat.le_refl _,fun _ _=>rfl⟩⟩).trans (Upd.set (i:=1) (v:= .int .i64 ((x.i:Int)+(n:Int))))))
 have i1:IntKind.i64.wrap (v:Int)=(v:Int):=IntWalk.i64_in _ ⟨by omega,by omega⟩
 have i2:IntKind.i64.wrap ((x.i:Int)+(n:Int))=(x.i:Int)+(n:Int):=IntWalk.i64_in _ ⟨by omega,by omega⟩
 obtain⟨i,hii⟩:=zB x.i
 obtain⟨a,ha⟩:=zB x.a
 rw[hii]at x1 HG H i2 hi
 rw[ha]at x0 HG hi hs
 rw[hii]
 clear h hv hii ha
 go_enter Tryz.func315,Tryz.ntmps315
 go_wp2
 go_quiet ((go_at_call 32;exact Calls.quiet_of_same (HG.out _)))
 go_wp2_with fail
 (with_reducible refine(HO.out _).mono ?_)
 rintro e w2 ⟨rfl,rfl⟩
 go_wp2
 go_ret
 exact⟨rfl,(H.out nq).1,(H.out nq).2⟩
end Bk
end Go.Proofs.YtppnakkaljbmbaaGreatDoor
