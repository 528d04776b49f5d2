/- Steps of a proof; no condition beyond what each states. -/
import Derived.LoopIn
import Derived.LoopNIn
import Derived.OwnWalkIn
import Derived.RangeFuncBox
import Derived.Sort.QuietIn
import Derived.Test.YtppnakkaljbmbaaGreatDoorZU01
import Derived.Test.YtppnakkaljbmbaaGreatDoorZU05
set_option linter.unusedVariables false
set_option linter.unusedSimpArgs false
set_option maxRecDepth 100000
set_option maxHeartbeats 8000000
namespace Go.Proofs.YtppnakkaljbmbaaGreatDoor
namespace Bt
open Go.RowKit
variable {w w':World} {a:Option Addr} {ls:List (List Bool)}
def LB:Kit.Lay (List Bool) where
 k:=2
 pos:=by omega
 cl m:=[.string (pk m),.int .i64 (m.length:Int)]
 len _:=rfl
 one m:=by simp[Value.oneCell']
theorem zQ2 {g o:Nat} (h:w'.heap[g]? =w.heap[g]?):w'.cell? ⟨g,o,none⟩=w.cell? ⟨g,o,none⟩:=by simp[World.cell?,h]
structure RdB (w:World) (a:Option Addr) (ls:List (List Bool)):Prop where
 rd:Kit.Rd LB w a ls
 ty:∀p,a=some p->∃cs f,w.heap[p.block]? =some (.cells cs 51 f)
theorem zGz {k:Nat} {o:Obj} (h:w.heap[k]? =some o):k<w.heap.size:=by
 rcases Nat.lt_or_ge k w.heap.size with hlt|hge
 ·exact hlt
 ·rw[Array.getElem?_eq_none hge]at h;cases h
theorem RdB.below {D:Nat} (h:RdB w a ls) (hb:Below D w w') (hD:D=w.heap.size):RdB w' a ls:=by
 subst hD
 refine⟨h.rd.below hb rfl,fun p hp=> ?_⟩
 obtain⟨cs,f,hc⟩:=h.ty p hp
 exact⟨cs,f,(hb.block _ (zGz hc)).trans hc⟩
theorem RdB.step {R:Nat} (h:RdB w a ls) (hs:Step w w' R) (hR:∀p,a=some p->p.block≠R):RdB w' a ls:=by
 have old:∀p,a=some p->w'.heap[p.block]? =w.heap[p.block]? :=by
  intro p hp
  obtain⟨cs,f,hc⟩:=h.ty p hp
  exact hs.old _ (zGz hc) (hR p hp) (fun cs f e=>by rw[hc]at e;injection e with e;injection e with _ e _;exact absurd e (by decide))
 refine⟨fun j x hx=> ?_,fun p hp=> ?_⟩
 ·obtain⟨b,off,ha,hc⟩:=h.rd j x hx
  exact⟨b,off,ha,fun i hi=>(zQ2 (old _ ha)).trans (hc i hi)⟩
 ·obtain⟨cs,f,hc⟩:=h.ty p hp
  exact⟨cs,f,(old p hp).trans hc⟩
theorem RdB.at_ (h:RdB w a ls) (j:Nat) (hj:j<ls.length):
  ∃b off,a=some ⟨b,off,none⟩/\w.cell? ⟨b,off+j*2,none⟩=some (.string (pk ls[j]))/\w.cell? ⟨b,off+j*2+1,none⟩=some (.int .i64 (ls[j].length:Int)):=by
 obtain⟨b,off,ha,hc⟩:=h.rd.at_ j hj
 exact⟨b,off,ha,hc 0 (by decide),hc 1 (by decide)⟩
theorem zX1 (ls:List (List Bool)) (j:Nat) (hj:j<ls.length):(ls.take (j+1)).flatten=(ls.take j).flatten++ls[j]:=by
 rw[take_one ls j hj,List.flatten_append];simp
theorem qD3 (ls:List (List Bool)) (j:Nat):(ls.take j).flatten.length<=ls.flatten.length:=by
 conv=>rhs;rw[<-List.take_append_drop j ls]
 rw[List.flatten_append,List.length_append];omega
theorem qBf (R Q:Nat) (a:Option Addr) (n c:Nat) (ls:List (List Bool)) (w:World) (hw:Wr w R none 0 []) (hn:ls.length=n) (hc:n<=c) (hc2:n<=1000000000) (hs:RdB w a ls) (ha:∀p,a=some p->p.block≠R) (hl:ls.flatten.length<=1000000)
  (r1:Q≠R) (h1:w.heap[Q]? =some (.cells #[.slice a n c] 70 (0,0))):
  Calls Tryz.prog 103 #[.pointer (some ⟨R,0,none⟩),.pointer (some ⟨Q,0,none⟩)] w fun e w'=>e= .returned (.tuple #[])/\∃a' c',Wr w' R a' c' ls.flatten/\Step w w' R:=by
 obtain⟨x0,f0⟩:=zEb h1
 have HW:=zH hw
 have HN:=zH hn
 have HS:=zH hs
 have HA:=zH ha
 have HL:=zH hl
 clear h1 hw hn hs ha hl
 go_enter Tryz.func103,Tryz.ntmps103
 go_wp2
 clear x0 f0
 go_loopw [7] (fun i wr=>∃j:Nat,j<=n/\i= .int .i64 j/\RowKit.Hid (∃a' c',Wr wr R a' c' (ls.take j).flatten)/\RowKit.Hid (Step w wr R)) (fun i _=>n-(intOf i).toNat)
 case atStart=>exact⟨0,by omega,rfl,zH ⟨none,0,by rw[List.take_zero];exact HW.out⟩,zH (Step.refl _ _)⟩
 case round=>
  obtain⟨j,hj,rfl,hwr,hst⟩:=hrel
  by_cases hlt:j<n
  ·obtain⟨a',c',hw'⟩:=hwr.out
   have hjm:j<ls.length:=by rw[HN.out];exact hlt
   obtain⟨b,off,rfl,e0,e1⟩:=(HS.out.step hst.out HA.out).at_ j hjm
   have HTK:=zH (zX1 ls j hjm)
   have HLL:=zH (show(ls.take j).flatten.length+ls[j].length<=1000000 by have h1:=qD3 ls (j+1);have h2:=HL.out;rw[HTK.out,List.length_append]at h1;omega)
   obtain⟨m,hm⟩:=zB (ls[j])
   rw[hm]at e0 e1 HTK HLL
   clear hm
   obtain⟨W0,hW0⟩:=zB (wr.alloc (.cells #[.string (pk m),.int .i64 (m.length:Int)] 51))
   have hb0:Below wr.heap.size wr W0:=by rw[<-hW0];exact(Below.refl _ _).alloc (Nat.le_refl _) _
   have HW0:=zH (hw'.below hb0 rfl)
   have HS0:=zH (hst.out.trans (Step.of_below hb0 (Nat.le_of_lt hw'.lt)))
   have hX:W0.heap[wr.heap.size]? =some (.cells #[.string (pk m),.int .i64 (m.length:Int)] 51 (0,0)):=by
    rw[<-hW0]
    show(wr.heap.push _)[wr.heap.size]? =_
    simp
   obtain⟨x0,x1,f0,f1⟩:=zAf hX
   have hq:=zH (zN3 R a' c' (ls.take j).flatten m W0 HW0.out HLL.out)
   unfold zAe at hq
   clear hw' hb0 hX
   go_wp2_with fail
   clear e0 e1 x0 x1 f0 f1 hW0
   (with_reducible refine hq.out.mono ?_)
   clear hq
   rintro e w2 ⟨rfl,a2,c2,hw2,hs2⟩
   have HW2:=zH (show ∃a' c',Wr w2 R a' c' (ls.take (j+1)).flatten from⟨a2,c2,by rw[HTK.out];exact hw2⟩)
   have HS2:=zH (HS0.out.trans hs2)
   clear hw2 hs2
   go_wp2
   go_roundw
   case rel=>exact⟨j+1,by omega,by go_num,HW2,HS2⟩
   case measure=>simp[intOf];omega
  ·obtain rfl:j=n:=by omega
   obtain⟨a',c',hw'⟩:=hwr.out
   rw[List.take_of_length_le (by rw[HN.out];omega)]at hw'
   have HW1:=zH hw'
   clear hw' hwr
   go_wp2
   go_end0
   exact⟨rfl,a',c',HW1.out,hst.out⟩
theorem zFs (a:Option Addr) (n c:Nat) (ls:List (List Bool)) (w:World) (hn:ls.length=n) (hc:n<=c) (hc2:n<=1000000000) (hs:RdB w a ls) (hl:ls.flatten.length<=1000000):
  Calls Tryz.prog 31 #[.slice a n c] w fun e w'=>e= .returned (.tuple #[zAe ls.flatten,.int .i64 0])/\Below w.heap.size w w':=by
 have hmf:∀(fn:Fn) (first cap:Array Value) (w:World),(Instr.makeFunc fn first cap).run Tryz.prog w= .ok (.func fn first cap) w:=fun _ _ _ _=>rfl
 obtain⟨B,hB⟩:=zB w.heap.size
 obtain⟨W1,hW1⟩:=zB (w.alloc (.cells #[.slice a n c] 70))
 obtain⟨W2,hW2⟩:=zB (W1.alloc (.cells #[.string ⟨#[]⟩,.int .i64 0] 51))
 have z1:W1.heap.size=B+1:=by rw[<-hW1,zA,hB]
 have z2:W2.heap.size=B+2:=by rw[<-hW2,zA,z1]
 have b1:Below B w W1:=by rw[<-hW1,<-hB];exact(Below.refl _ _).alloc (Nat.le_refl _) _
 have b2:Below (B+1) W1 W2:=by rw[<-hW2,<-z1];exact(Below.refl _ _).alloc (Nat.le_refl _) _
 have new:∀(W:World) (o:Obj),(W.alloc o).heap[W.heap.size]? =some o:=fun W o=>by show(W.heap.push o)[W.heap.size]? =_;simp
 have c1:W2.heap[B]? =some (.cells #[.slice a n c] 70 (0,0)):=by
  rw[b2.block B (by omega),<-hW1,<-hB]
  exact new _ _
 have c2:W2.heap[B+1]? =some (.cells #[.string ⟨#[]⟩,.int .i64 0] 51 (0,0)):=by
  rw[<-hW2,<-z1]
  exact new _ _
 have b12:Below B w W2:=b1.trans (b2.mono (by omega))
 have hs2:RdB W2 a ls:=hs.below b12 hB.symm
 have hap:∀p,a=some p->p.block<B:=fun p hp=>by
  obtain⟨cs,f,h⟩:=hs.ty p hp
  rw[<-hB];exact zGz h
 have HL:=zH (qAl ⟨B,0,none⟩ ls.flatten hl W2 (fun W R hR hb hwr=>
  qBf R B a n c ls W hwr hn hc hc2 (hs2.below hb rfl) (fun p hp=>by have:=hap p hp;omega) hl (by omega) ((hb.block B (by omega)).trans c1)))
 have HB:=zH (show ∀w',Below W2.heap.size W2 w'->Below B w w' from fun w' h=>b12.trans (h.mono (by omega)))
 have HC:=zH (show ∀w',Below W2.heap.size W2 w'->w'.heap[B+1]? =some (.cells #[.string ⟨#[]⟩,.int .i64 0] 51 (0,0))from fun w' h=>(h.block (B+1) (by omega)).trans c2)
 clear b1 b2 c1 c2 b12 new hs hs2 hap hn hl
 unfold zAe at HL⊢
 obtain⟨d,hd⟩:=zB (pk ls.flatten)
 obtain⟨k,hk⟩:∃k:Int,(ls.flatten.length:Int)=k:=⟨_,rfl⟩
 rw[hd,hk]at HL⊢
 clear hd hk
 rw[hB]
 go_enter Tryz.func31,Tryz.ntmps31
 go_wp2_with fail
 clear hW1 hW2 z1 z2
 (with_reducible refine HL.out.mono ?_)
 rintro e w4 ⟨rfl,hb4⟩
 have H4:=zH (HB.out w4 hb4)
 obtain⟨y0,y1,g0,g1⟩:=zAf (HC.out w4 hb4)
 clear hb4
 go_wp2
 try simp only[Exit.inBlock,Exit.then]
 exact bodyPost_ret (zEk rfl _ _ (B+1) _ _ _ rfl rfl (zCy y0) (zCx y1)) rfl ⟨rfl,zCs H4.out (by omega)⟩
end Bt
namespace Rg
open Go.RowKit Go.Shelf
variable {C:Nat->Prop} {A B W W':World} {l:Nat} {o o':Obj}
attribute [local go_sem] Oper.semAt_some
def Sb (C:Nat->Prop) (W W':World):Prop:=W.heap.size<=W'.heap.size/\∀k cs t f,W.heap[k]? =some (.cells cs t f)->¬C k->W'.heap[k]? =some (.cells cs t f)
theorem Sb.refl (C:Nat->Prop) (W:World):Sb C W W:=⟨Nat.le_refl _,fun _ _ _ _ h _=>h⟩
theorem Sb.trans {D:World} (h:Sb C A B) (g:Sb C B D):Sb C A D:=⟨Nat.le_trans h.1 g.1,fun k cs t f hk hc=>g.2 k cs t f (h.2 k cs t f hk hc) hc⟩
theorem Sb.mono {D:Nat->Prop} (h:Sb C A B) (hd:∀k,C k->D k):Sb D A B:=⟨h.1,fun k cs t f hk hc=>h.2 k cs t f hk (fun hx=>hc (hd k hx))⟩
theorem Sb.below (h:Below A.heap.size A B):Sb C A B:=⟨h.size,fun k cs t f hk _=>(h.block k (by
 rcases Nat.lt_or_ge k A.heap.size with hlt|hge
 ·exact hlt
 ·rw[Array.getElem?_eq_none hge]at hk;cases hk)).trans hk⟩
theorem putObj_size (W:World) (l:Nat) (o:Obj):(W.putObj l o).heap.size=W.heap.size:=by simp[World.putObj]
theorem Sb.left (hl:W.heap[l]? =some o) (ho:o.isCells=false) (h:Sb C (W.putObj l o') W'):Sb C W W':=by
 refine⟨by have:=h.1;rwa[putObj_size]at this,fun k cs t f hk hc=>h.2 k cs t f ?_ hc⟩
 rw[World.putObj_heap_other]
 ·exact hk
 ·rintro rfl
  rw[hl]at hk
  obtain rfl:=Option.some.inj hk
  cases ho
theorem Sb.right (hl:W'.heap[l]? =some o) (ho:o.isCells=false) (h:Sb C W W'):Sb C W (W'.putObj l o'):=by
 refine⟨by rw[putObj_size];exact h.1,fun k cs t f hk hc=> ?_⟩
 have h1:=h.2 k cs t f hk hc
 rw[World.putObj_heap_other]
 ·exact h1
 ·rintro rfl
  rw[hl]at h1
  obtain rfl:=Option.some.inj h1
  cases ho
def zR7 {α:Type} (P:Program) (gf:Nat) (lb:Array Value) (E:α->World->Array Value->Prop) (R:World->World->Prop) (C:Nat->Prop) (S:List α) (W:World):Prop:=
 ∀(l:Nat) (J Jx:List α->World->Prop),(∀pre A B,J pre A->R A B->J pre B)->
  (∀pre x W1 vs,J pre W1->E x W1 vs->pre++[x]<+:S->YieldAt Fence.wide 1 P l vs W1 fun e W'=>
   (e= .returned (.bool true)/\J (pre++[x]) W'/\Sb C W1 W')\/(e= .returned (.bool false)/\Jx (pre++[x]) W'))->
  J [] W->CallsIn Fence.wide 2 P gf (#[.func (.yield l) #[] #[]]++lb) W fun e W'=>(∃v,e= .returned v)/\(J S W'\/∃pre,pre<+:S/\Jx pre W')
def zJ6 {α:Type} (C:Nat->Prop) (I:List α->World->Prop) (Ix:Code->List α->World->Prop) (xs:List α) (W:World):Exit->Act->World->Prop
 | .normal,_,W'=>KeepsOthers W W'/\Sb C W W'/\I xs W'
 | .ret,_,W'=>KeepsOthers W W'/\Ix .ret xs W'
 |_,_,_=>False
theorem zDt {P:Program} {α:Type} {g:Operand} {ps:Array Tmp} {assign body:Code} {Q:Exit->Act->World->Prop} {a:Act} {w:World} {gf:Nat} {lb:Array Value}
  (hg:a.eval g= .func (.func gf) #[] lb) (eg:∀args w,(callFunc gf args).run P w= .ok (.enter gf args) w) (E:α->World->Array Value->Prop) (R:World->World->Prop) (C:Nat->Prop) (S:List α) (hR:∀A B,R A B->KeepsOthers A B)
  (hsz:∀x W vs,E x W vs->vs.size=ps.size) (hE:∀x W l o o' vs,W.heap[l]? =some o->o.isCells=false->E x W vs->E x (W.putObj l o') vs)
  (hseq:∀W,Below w.heap.size w W->zR7 P gf lb E R C S W)
  (I:List α->World->Prop) (Ix:Code->List α->World->Prop)
  (hI:∀pre W l o o',w.heap.size<=l->W.heap[l]? =some o->o.isCells=false->I pre W->I pre (W.putObj l o'))
  (hIx:∀c pre W l o o',w.heap.size<=l->W.heap[l]? =some o->o.isCells=false->Ix c pre W->Ix c pre (W.putObj l o'))
  (hIS:∀pre A B,I pre A->R A B->I pre B) (h0:∀o o',I [] ((w.alloc o).alloc o')) (a₁:Array Value->Act)
  (hassign:∀(l:Nat) (x:α) (W:World) (vs:Array Value) (K:Act->World->Prop),E x W vs->K (a₁ vs) W->
   assign.wpIn (Fence.wide.inRound l) 1 P (Exit.then K (fun _ _ _=>False)) {tmps:=(ps.zip vs).foldl (fun t (p,v)=>t.setIfInBounds p v) a.tmps,defers:=[]} W)
  (hbody:∀(l:Nat) (pre:List α) (x:α) (W:World) (vs:Array Value),w.heap.size<W.heap.size->I pre W->E x W vs->pre++[x]<+:S->body.wpIn (Fence.wide.inRound l) 1 P (zJ6 C I Ix (pre++[x]) W) (a₁ vs) W)
  (hdone:∀(D:Nat) (W:World),w.heap.size<=D->I S W->W.heap[D]? =some (.deferred (some []))->Q .normal {a with defers:={target:= .collected D,args:= #[]}::a.defers} W)
  (hstop:∀(D:Nat) (c:Code) (pre:List α) (W:World),w.heap.size<=D->pre<+:S->Ix c pre W->W.heap[D]? =some (.deferred (some []))->c.wpIn Fence.wide 3 P Q {a with defers:={target:= .collected D,args:= #[]}::a.defers} W):
  (Code.rangeFunc g ps assign body).wpIn Fence.wide 3 P Q a w:=by
 refine wpIn_rangeFunc ?_
 intro fn hfn
 obtain⟨rec,hrec⟩:∃rec:LoopState->Option Code->Loop,rec=fun st pe=>{state:=st,pending:=pe,fn,tmps:=a.tmps,params:=ps,assign,body,defers:=w.heap.size}:=⟨_,rfl⟩
 obtain⟨W1,hW1⟩:=zB ((w.alloc (.deferred (some []))).alloc (.loop (rec .ready none)))
 have hL1:W1.heap[w.heap.size+1]? =some (.loop (rec .ready none)):=by
  rw[<-hW1]
  have:=World.alloc_heap_new (w.alloc (.deferred (some []))) (.loop (rec .ready none))
  rwa[World.size_alloc]at this
 have hK1:W1.heap[w.heap.size]? =some (.deferred (some [])):=by
  rw[<-hW1]
  exact(Below.heap_alloc _ _ _ (by simp)).trans (World.alloc_heap_new w _)
 have hB1:Below w.heap.size w W1:=by rw[<-hW1];exact((Below.refl _ w).alloc (Nat.le_refl _) _).alloc (by simp) _
 refine⟨w.heap.size+1,[{target:= .collected w.heap.size,args:= #[]}],W1,{target:= .fn (.func gf) lb,args:= #[.func (.yield (w.heap.size+1)) #[] #[]]},W1,gf,
  #[.func (.yield (w.heap.size+1)) #[] #[]]++lb,W1,?_,?_,?_,?_,fun _=>by omega,?_⟩
 ·rw[<-hW1,hrec];exact run_enterLoop_outer _ _ _ _ _
 ·simp only[resolve,hg]
  simp[go_sem]
 ·intro f' hf';trivial
 ·simp[invoke,go_sem,eg]
 ·refine(hseq W1 hB1 (w.heap.size+1)
   (fun pre W=>I pre W/\W.heap[w.heap.size+1]? =some (.loop (rec .ready none))/\W.heap[w.heap.size]? =some (.deferred (some [])))
   (fun pre W=>∃c,Ix c pre W/\W.heap[w.heap.size+1]? =some (.loop (rec .done (some c)))/\W.heap[w.heap.size]? =some (.deferred (some [])))
   (fun pre A B hs h=>⟨hIS pre A B hs.1 h,(hR _ _ h).same _ _ hs.2.1 rfl,(hR _ _ h).same _ _ hs.2.2 rfl⟩)
   ?_ ⟨by rw[<-hW1];exact h0 _ _,hL1,hK1⟩).mono ?_
  ·rintro pre x W vs ⟨hi,hl,hk⟩ hex hpre
   have hlt:w.heap.size+1<W.heap.size:=(Array.getElem?_eq_some_iff.1 hl).1
   have hy:=run_yield (P:=P) (args:=vs) hl (by rw[hrec];exact hsz _ _ _ hex)
   rw[hrec]at hy
   refine⟨fn,_,assign,body,hy,roundIn_of_wpIn hfn (hassign _ x W vs _ hex ⟨_,run_beginRound hl (by rw[hrec]),?_⟩)⟩
   obtain⟨W2,hW2⟩:=zB (W.putObj (w.heap.size+1) (.loop {rec .ready none with state:= .busy}))
   have hl2:W2.heap[w.heap.size+1]? =some (.loop {rec .ready none with state:= .busy}):=by rw[<-hW2];exact World.putObj_heap_same hlt
   have hk2:W2.heap[w.heap.size]? =some (.deferred (some [])):=by rw[<-hW2];exact(World.putObj_heap_other (by omega)).trans hk
   have he2:E x W2 vs:=by rw[<-hW2];exact hE _ _ _ _ _ _ hl rfl hex
   have hs2:w.heap.size<W2.heap.size:=by have:=(Array.getElem?_eq_some_iff.1 hl2).1;omega
   have hi2:I pre W2:=by rw[<-hW2];exact hI pre W _ _ _ (by omega) hl rfl hi
   have hgoal:body.wpIn (Fence.wide.inRound (w.heap.size+1)) 1 P _ (a₁ vs) W2:=hbody (w.heap.size+1) pre x W2 vs hs2 hi2 he2 hpre
   rw[hW2]
   refine wpIn_mono hgoal ?_
   have fin:∀(jump:Option Code) (W3:World),KeepsOthers W2 W3->
     (Instr.endRound (w.heap.size+1) jump).run P W3= .ok (.bool jump.isNone) (W3.putObj (w.heap.size+1) (.loop (rec (if jump.isNone then .ready else .done) jump)))/\
     W3.heap[w.heap.size+1]? =some (.loop {rec .ready none with state:= .busy})/\
     (W3.putObj (w.heap.size+1) (.loop (rec (if jump.isNone then .ready else .done) jump))).heap[w.heap.size+1]? =some (.loop (rec (if jump.isNone then .ready else .done) jump))/\
     (W3.putObj (w.heap.size+1) (.loop (rec (if jump.isNone then .ready else .done) jump))).heap[w.heap.size]? =some (.deferred (some [])):=fun jump W3 hk3=>by
    have hl3:=hk3.same _ _ hl2 rfl
    have:=run_endRound (P:=P) jump hl3
    rw[hrec]at this⊢
    exact⟨this,by rw[hrec]at hl3;exact hl3,World.putObj_heap_same (Array.getElem?_eq_some_iff.1 hl3).1,(World.putObj_heap_other (by omega)).trans (hk3.same _ _ hk2 rfl)⟩
   rintro e a3 W3 hp
   cases e with
   |normal=>
    obtain⟨hk3,hkp3,hi3⟩:=hp
    obtain⟨hr,hl3,hl4,hk4⟩:=fin none W3 hk3
    exact⟨_,_,hr,.inl ⟨rfl,⟨hI _ _ _ _ _ (by omega) hl3 rfl hi3,hl4,hk4⟩,Sb.right hl3 rfl (Sb.left hl rfl (by rw[hW2];exact hkp3))⟩⟩
   |ret=>
    obtain⟨hk3,hi3⟩:=hp
    obtain⟨hr,hl3,hl4,hk4⟩:=fin (some .ret) W3 hk3
    exact⟨_,_,hr,.inr ⟨rfl,.ret,hIx _ _ _ _ _ _ (by omega) hl3 rfl hi3,hl4,hk4⟩⟩
   |exit id=>exact hp.elim
   |goto t=>exact hp.elim
   |panic ch=>exact hp.elim
   |outgrown=>exact hp.elim
  ·rintro e W2 ⟨⟨v,rfl⟩,(⟨hi,hl,hk⟩|⟨pre,hSp,c,hi,hl,hk⟩)⟩
   ·exact⟨none,_,by have:=run_endLoop (P:=P) hl (by rw[hrec];simp);rw[hrec]at this;exact this,hdone _ _ (Nat.le_refl _) (hI _ _ _ _ _ (by omega) hl rfl hi) ((World.putObj_heap_other (by omega)).trans hk)⟩
   ·exact⟨some c,_,by have:=run_endLoop (P:=P) hl (by rw[hrec];simp);rw[hrec]at this;exact this,hstop _ c pre _ (Nat.le_refl _) hSp (hIx _ _ _ _ _ _ (by omega) hl rfl hi) ((World.putObj_heap_other (by omega)).trans hk)⟩
end Rg
namespace Zr
open Bt
def digits (n:Nat):List Nat:=if h:n=0 then[]else(n-1)%2::digits ((n-1)/2)
termination_by n
decreasing_by omega
def number:List Nat->Nat
 |[]=>0
 |x::r=>2*number r+x+1
theorem zEu:digits 0=[]:=by unfold digits;rfl
theorem zFh {n:Nat} (h:0<n):digits n=(n-1)%2::digits ((n-1)/2):=by rw[digits,dif_neg (by omega)]
theorem zDk (n:Nat):number (digits n)=n:=by
 induction n using Nat.strongRecOn with
 |_ n ih=>
  rcases Nat.eq_zero_or_pos n with h|h
  ·subst h;rw[zEu];rfl
  ·rw[zFh h,number,ih _ (by omega)]
   omega
theorem zD9 (n:Nat):∀x∈digits n,x<=1:=by
 induction n using Nat.strongRecOn with
 |_ n ih=>
  rcases Nat.eq_zero_or_pos n with h|h
  ·subst h;rw[zEu];intro x hx;cases hx
  ·rw[zFh h]
   intro x hx
   rcases List.mem_cons.1 hx with rfl|hx
   ·omega
   ·exact ih _ (by omega) x hx
theorem zIa (n:Nat):(digits n).length<=n:=by
 induction n using Nat.strongRecOn with
 |_ n ih=>
  rcases Nat.eq_zero_or_pos n with h|h
  ·subst h;rw[zEu];exact Nat.le_refl _
  ·rw[zFh h,List.length_cons]
   have:=ih ((n-1)/2) (by omega)
   omega
def row (t:Nat):List Nat->Nat
 |[]=>0
 |x::r=>if x<=t then row t r+1 else 0
theorem zQe (t:Nat):∀l,row t l<=l.length
 |[]=>Nat.le_refl _
 |x::r=>by have:=zQe t r;unfold row;split<;>rw[List.length_cons]<;>omega
theorem zM8 (t:Nat):∀(l m:List Nat),(∀x∈l,x<=t)->row t (l++m)=l.length+row t m
 |[],m,_=>by simp
 |x::r,m,h=>by
  rw[List.cons_append,row,if_pos (h x (by simp)),zM8 t r m (fun y hy=>h y (by simp[hy])),List.length_cons]
  omega
def enc:Nat->List Nat->List Nat
 |k,[]=>digits k
 |k,0::r=>enc (k+1) r
 |k,(x+1)::r=>digits k++(x+2)::enc 0 r
theorem qD5 (l:List Nat):∀k,enc k l=match l.drop (row 0 l)with
  |[]=>digits (k+row 0 l)
  |x::r=>digits (k+row 0 l)++(x+1)::enc 0 r:=by
 induction l with
 |nil=>intro k;simp[enc,row]
 |cons x l ih=>
  intro k
  cases x with
  |zero=>
   rw[enc,ih (k+1),row,if_pos (Nat.le_refl _),List.drop_succ_cons,show k+1+row 0 l=k+(row 0 l+1)by omega]
  |succ x=>
   rw[enc,row,if_neg (by omega),List.drop_zero]
   simp
def dec:Nat->List Nat->List Nat
 |0,_=>[]
 |f+1,m=>if m=[]then[]else
  List.replicate (number (m.take (row 1 m))) 0++match m.drop (row 1 m)with
   |[]=>[]
   |x::r=>(x-1)::dec f r
theorem zJz:∀(l:List Nat) (k:Nat),(enc k l).length<=k+l.length
 |[],k=>by rw[enc];exact zIa k
 |0::r,k=>by have:=zJz r (k+1);rw[enc,List.length_cons];omega
 |(x+1)::r,k=>by
  have:=zJz r 0
  have:=zIa k
  rw[enc,List.length_append,List.length_cons,List.length_cons]
  omega
theorem zNs:∀(l:List Nat) (k f:Nat),(enc k l).length<=f->dec f (enc k l)=List.replicate k 0++l
 |[],k,f,h=>by
  rw[enc]at h⊢
  cases f with
  |zero=>
   have h0:=List.eq_nil_of_length_eq_zero (Nat.le_zero.1 h)
   have:=zDk k
   rw[h0]at this
   have hk:k=0:=by rw[<-this];rfl
   subst hk;rfl
  |succ f=>
   rw[dec]
   split
   ·rename_i h0
    have:=zDk k
    rw[h0]at this
    have hk:k=0:=by rw[<-this];rfl
    subst hk;rfl
   ·have hr:row 1 (digits k)=(digits k).length:=by
     have:=zM8 1 (digits k) [] (zD9 k)
     simpa [row]using this
    rw[hr,List.take_length,zDk,List.drop_length]
 |0::r,k,f,h=>by
  rw[enc]at h⊢
  rw[zNs r (k+1) f h,List.replicate_succ']
  simp
 |(x+1)::r,k,f,h=>by
  rw[enc]at h⊢
  rw[List.length_append,List.length_cons]at h
  obtain⟨f',rfl⟩:∃f',f=f'+1:=⟨f-1,by omega⟩
  have hr:row 1 (digits k++(x+2)::enc 0 r)=(digits k).length:=by
   rw[zM8 1 _ _ (zD9 k),row,if_neg (by omega)]
   omega
  rw[dec,if_neg (by simp),hr,List.take_left' rfl,List.drop_left' rfl,zDk]
  simp only
  rw[zNs r 0 f' (by omega)]
  simp
theorem zNq:∀(l:List Nat) (k:Nat) (b:Nat),(∀x∈l,x<b)->1<=b->∀y∈enc k l,y<=b
 |[],k,b,_,h1,y,hy=>by rw[enc]at hy;have:=zD9 k y hy;omega
 |0::r,k,b,h,h1,y,hy=>by rw[enc]at hy;exact zNq r (k+1) b (fun x hx=>h x (by simp[hx])) h1 y hy
 |(x+1)::r,k,b,h,h1,y,hy=>by
  rw[enc]at hy
  rcases List.mem_append.1 hy with hy|hy
  ·have:=zD9 k y hy;omega
  ·rcases List.mem_cons.1 hy with rfl|hy
   ·have:=h (x+1) (by simp);omega
   ·exact zNq r 0 b (fun z hz=>h z (by simp[hz])) h1 y hy
theorem zRo:∀(f g:Nat) (m:List Nat),m.length<=f->f<=g->dec g m=dec f m
 |0,g,m,h,_=>by
  have h0:=List.eq_nil_of_length_eq_zero (Nat.le_zero.1 h)
  subst h0
  cases g with
  |zero=>rfl
  |succ g=>simp[dec]
 |f+1,g,m,h,hg=>by
  obtain⟨g',rfl⟩:∃g',g=g'+1:=⟨g-1,by omega⟩
  rw[dec,dec]
  split
  ·rfl
  ·congr 1
   match hm:m.drop (row 1 m)with
   |[]=>rfl
   |x::r=>
    simp only
    have hl:=congrArg List.length hm
    rw[List.length_drop,List.length_cons]at hl
    rw[zRo f g' r (by omega) (by omega)]
def steps (now n:Nat):List Bool:=(List.replicate (n-now) [true,false]).flatten++(List.replicate (now-n) [true,true]).flatten++[false]
def del:Nat->List Nat->List Bool
 |_,[]=>[]
 |now,n::r=>steps now n++del n r
def delta (l:List Nat):List Bool:=num (l.headD 0) 5++del (l.headD 0) l
def qCp (p:List Nat) (at_:Nat):List Nat:=p.getD at_ 0::(p.take at_++p.drop (at_+1))
def unary (n:Nat):List Bool:=List.replicate n true++[false]
def sel:List Nat->List Nat->List Bool
 |_,[]=>[]
 |p,c::r=>unary (p.idxOf c)++sel (qCp p (p.idxOf c)) r
end Zr
namespace Front
variable {c:UInt8}
abbrev T:=List UInt8
def right (l:T):Bool:=decide l.Nodup
def mtf (l:T) (c:UInt8):T:=c::l.erase c
def bring (l:T) (k:Nat):T:=l.getD k 0::l.eraseIdx k
def zEn (a s:T):T:=s.foldl mtf a
def zB4:T->T->List Nat
 |_,[]=>[]
 |a,c::s=>a.idxOf c::zB4 (mtf a c) s
def all (a s:T):Bool:=s.all fun c=>decide (c∈a)
def unp:T->List Nat->T
 |_,[]=>[]
 |a,k::l=>a.getD k 0::unp (bring a k) l
def unf (a:T) (l:List Nat):T:=l.foldl bring a
theorem zIu (l:T):right l=true↔l.Nodup:=by simp[right]
theorem zTu {l:T} (h:c∈l) (x:UInt8):x∈mtf l c↔x∈l:=by
 unfold mtf
 by_cases hx:x=c
 ·subst hx;simp[h]
 ·simp[hx]
theorem zH2 {l:T} (h:c∈l):(mtf l c).length=l.length:=by
 unfold mtf
 rw[List.length_cons,List.length_erase_of_mem h]
 have:=List.length_pos_of_mem h
 omega
theorem erase_eq (l:T) (c:UInt8) (h:c∈l):l.erase c=l.eraseIdx (l.idxOf c):=by
 rw[List.erase_eq_eraseIdx_of_idxOf (i:=l.idxOf c) rfl]
theorem zMl (l:T) (c:UInt8) (h:c∈l):l.getD (l.idxOf c) 0=c:=by
 have h1:=List.idxOf_lt_length_of_mem h
 rw[List.getD,List.getElem?_eq_getElem h1,Option.getD_some,List.getElem_idxOf]
theorem zOq (l:T) (c:UInt8) (h:c∈l):mtf l c=bring l (l.idxOf c):=by
 unfold mtf bring
 rw[zMl l c h,erase_eq l c h]
theorem zD6 (l:T) (k:Nat) (hk:k<l.length):(bring l k).length=l.length:=by
 unfold bring
 rw[List.length_cons,List.length_eraseIdx_of_lt hk];omega
theorem all_cons (a:T) (c:UInt8) (s:T):all a (c::s)=(decide (c∈a)&&all a s):=rfl
theorem qBo (a s:T) (c:UInt8):all a (s++[c])=(all a s&&decide (c∈a)):=by simp[all]
theorem zUa (a s:T):all a s=true↔∀c∈s,c∈a:=by simp[all]
theorem zK {a:T} (h:c∈a) (s:T):all (mtf a c) s=all a s:=by
 unfold all
 congr 1
 funext x
 simp[zTu h]
theorem zX3 (a s:T) (c:UInt8):zEn a (s++[c])=mtf (zEn a s) c:=by unfold zEn;rw[List.foldl_append];rfl
theorem zKg:∀(a s t:T),zB4 a (s++t)=zB4 a s++zB4 (zEn a s) t
 |a,[],t=>rfl
 |a,c::s,t=>by rw[List.cons_append,zB4,zB4,zKg (mtf a c) s t];rfl
theorem zW5 (a s:T) (c:UInt8):zB4 a (s++[c])=zB4 a s++[(zEn a s).idxOf c]:=by rw[zKg];rfl
theorem zDi:∀(a s:T),(zB4 a s).length=s.length
 |_,[]=>rfl
 |a,c::s=>by rw[zB4,List.length_cons,zDi (mtf a c) s];rfl
theorem zLi:∀(s a:T),all a s=true->∀x,x∈zEn a s↔x∈a
 |[],a,_,x=>Iff.rfl
 |c::s,a,h,x=>by
  rw[all_cons,Bool.and_eq_true,decide_eq_true_eq]at h
  have ih:=zLi s (mtf a c) (by rw[zK h.1];exact h.2) x
  show x∈zEn (mtf a c) s↔_
  rw[ih,zTu h.1]
theorem zKp:∀(s a:T),all a s=true->(zEn a s).length=a.length
 |[],a,_=>rfl
 |c::s,a,h=>by
  rw[all_cons,Bool.and_eq_true,decide_eq_true_eq]at h
  show(zEn (mtf a c) s).length=_
  rw[zKp s (mtf a c) (by rw[zK h.1];exact h.2),zH2 h.1]
theorem zPx:∀(s a:T),all a s=true->unp a (zB4 a s)=s
 |[],_,_=>rfl
 |c::s,a,h=>by
  rw[all_cons,Bool.and_eq_true,decide_eq_true_eq]at h
  rw[zB4,unp,zMl a c h.1,<-zOq a c h.1,zPx s (mtf a c) (by rw[zK h.1];exact h.2)]
theorem zNb:∀(s a:T),all a s=true->∀k∈zB4 a s,k<a.length
 |[],_,_,k,hk=>by simp[zB4]at hk
 |c::s,a,h,k,hk=>by
  rw[all_cons,Bool.and_eq_true,decide_eq_true_eq]at h
  rw[zB4,List.mem_cons]at hk
  rcases hk with rfl|hk
  ·exact List.idxOf_lt_length_of_mem h.1
  ·have:=zNb s (mtf a c) (by rw[zK h.1];exact h.2) k hk
   rwa[zH2 h.1]at this
theorem zLy:∀(l m:List Nat) (a:T),unp a (l++m)=unp a l++unp (unf a l) m
 |[],m,a=>rfl
 |k::l,m,a=>by rw[List.cons_append,unp,unp,zLy l m];rfl
theorem zY0 (a:T) (l:List Nat) (k:Nat):unp a (l++[k])=unp a l++[(unf a l).getD k 0]:=by rw[zLy];rfl
theorem zY2 (a:T) (l:List Nat) (k:Nat):unf a (l++[k])=bring (unf a l) k:=by unfold unf;rw[List.foldl_append];rfl
theorem zLz:∀(l:List Nat) (a:T),(∀k∈l,k<a.length)->(unf a l).length=a.length
 |[],_,_=>rfl
 |k::l,a,h=>by
  have hk:=h k (by simp)
  show(unf (bring a k) l).length=_
  rw[zLz l (bring a k) (fun j hj=>by rw[zD6 a k hk];exact h j (by simp[hj])),zD6 a k hk]
theorem zLx:∀(l:List Nat) (a:T),(unp a l).length=l.length
 |[],_=>rfl
 |k::l,a=>by rw[unp,List.length_cons,zLx l];rfl
def zDp (l:T) (c:UInt8):Int:=if c∈l then(l.idxOf c:Int)else-1
theorem zGl (l:T) (k:Nat) (hk:k<l.length):(l.take (k+1)).Nodup↔(l.take k).Nodup/\¬l[k]∈l.take k:=by
 rw[List.take_succ_eq_append_getElem hk,List.nodup_append]
 simp
 intro _
 constructor
 ·intro h1 h2;exact h1 _ h2 rfl
 ·intro h1 x hx e;subst e;exact h1 hx
theorem zGw (l:T) (k:Nat) (hk:k<l.length) (h:l[k]∈l.take k):right l=false:=by
 rw[Bool.eq_false_iff]
 intro h1
 rw[zIu]at h1
 have h2:(l.take (k+1)).Nodup:=h1.sublist (List.take_sublist _ _)
 exact((zGl l k hk).1 h2).2 h
def codeF (a s:T):Int:=if right a=true then(if all a s=true then 0 else 5)else 1
def zFw (a s:T):List Nat:=if codeF a s=0 then zB4 a s else[]
def zN (a s:T):T:=if codeF a s=0 then zEn a s else[]
theorem zYd (a s:T) (h:right a=false):codeF a s=1:=by unfold codeF;rw[h];rfl
theorem zVg (a s:T) (h:right a=true) (h2:all a s=false):codeF a s=5:=by unfold codeF;rw[h,h2];rfl
theorem zRr (a s:T) (h:right a=true) (h2:all a s=true):codeF a s=0:=by unfold codeF;rw[h,h2];rfl
theorem zQm (a s:T) (h:codeF a s=0):zFw a s=zB4 a s:=by unfold zFw;rw[if_pos h]
theorem zQl (a s:T) (h:¬codeF a s=0):zFw a s=[]:=by unfold zFw;rw[if_neg h]
theorem qCz (a s:T) (h:codeF a s=0):zN a s=zEn a s:=by unfold zN;rw[if_pos h]
theorem zQn (a s:T) (h:¬codeF a s=0):zN a s=[]:=by unfold zN;rw[if_neg h]
def inR (n:Nat) (l:List Int):Bool:=l.all fun x=>decide (0<=x/\x<(n:Int))
def zBs (l:List Int):List Nat:=l.map Int.toNat
def zC3 (a:T) (l:List Int):Int:=if right a=true then(if inR a.length l=true then 0 else 5)else 1
def zIv (a:T) (l:List Int):T:=if zC3 a l=0 then unp a (zBs l)else[]
theorem zYe (a:T) (l:List Int) (h:right a=false):zC3 a l=1:=by unfold zC3;rw[h];rfl
theorem zVh (a:T) (l:List Int) (h:right a=true) (h2:inR a.length l=false):zC3 a l=5:=by unfold zC3;rw[h,h2];rfl
theorem zRs (a:T) (l:List Int) (h:right a=true) (h2:inR a.length l=true):zC3 a l=0:=by unfold zC3;rw[h,h2];rfl
theorem zTj (a:T) (l:List Int) (h:zC3 a l=0):zIv a l=unp a (zBs l):=by unfold zIv;rw[if_pos h]
theorem zK7 (a:T) (l:List Int) (h:¬zC3 a l=0):zIv a l=[]:=by unfold zIv;rw[if_neg h]
theorem qAr (n:Nat) (l:List Int) (x:Int):inR n (l++[x])=(inR n l&&decide (0<=x/\x<(n:Int))):=by simp[inR]
theorem zNo (n:Nat) (l:List Int):inR n l=true↔∀x∈l,0<=x/\x<(n:Int):=by simp[inR]
theorem zOp (l:List Int) (x:Int):zBs (l++[x])=zBs l++[x.toNat]:=by simp[zBs]
theorem qC8 (n:Nat) (l:List Int) (h:inR n l=true):∀k∈zBs l,k<n:=by
 intro k hk
 obtain⟨x,hx,rfl⟩:=List.mem_map.1 hk
 have:=(zNo n l).1 h x hx
 omega
theorem qC7 (l:List Nat):zBs (l.map fun k:Nat=>(k:Int))=l:=by unfold zBs;rw[List.map_map];conv=>{rhs;rw[<-List.map_id l]};exact List.map_congr_left fun x _=>by simp
theorem qF0 (n:Nat) (l:List Nat) (h:∀k∈l,k<n):inR n (l.map fun k:Nat=>(k:Int))=true:=by
 rw[zNo]
 intro x hx
 obtain⟨k,hk,rfl⟩:=List.mem_map.1 hx
 have:=h k hk
 omega
end Front
end Go.Proofs.YtppnakkaljbmbaaGreatDoor
