/- Steps of a proof; no condition beyond what each states. -/
import Derived.Test.YtppnakkaljbmbaaGreatDoorZU31
set_option linter.unusedVariables false
set_option linter.unusedSimpArgs false
set_option maxRecDepth 100000
set_option maxHeartbeats 8000000
namespace Go.Proofs.YtppnakkaljbmbaaGreatDoor
namespace Rle
open Go.RowKit Go.Shelf
attribute [local go_sem] Oper.semAt_some
def zJd (b:Nat) (A B:World):Prop:=(∃n,B=A.drewN n)\/∃v,B=A.setCell ⟨b,0,none⟩ v
theorem zMs (w:World) (n:Nat):(w.drewN n).heap=w.heap:=rfl
theorem zJd.keeps {b:Nat} {A B:World} (h:zJd b A B):KeepsOthers A B:=by
 rcases h with⟨n,rfl⟩|⟨v,rfl⟩
 ·exact⟨by rw[zMs];exact Nat.le_refl _,fun k o hk _=>by rw[zMs];exact hk⟩
 ·exact KeepsOthers.setCell _ _ _
def qGq {α:Type} (P:Program) (gf:Nat) (lb:Array Value) (enc:α->Value) (b:Nat) (S:List α) (W:World):Prop:=
 ∀(l:Nat) (J Jx:List α->World->Prop),(∀pre A B,J pre A->zJd b A B->J pre B)->
  (∀pre x W1,J pre W1->pre++[x]<+:S->YieldAt Fence.wide 1 P l #[enc x] W1 fun e W'=>
   (e= .returned (.bool true)/\J (pre++[x]) W'/\W'.heap[b]? =W1.heap[b]?)\/(e= .returned (.bool false)/\Jx (pre++[x]) W'))->
  J [] W->CallsIn Fence.wide 2 P gf (#[.func (.yield l) #[] #[]]++lb) W fun e W'=>(∃v,e= .returned v)/\(J S W'\/∃pre,pre<+:S/\Jx pre W')
def zJ6 {α:Type} (b:Nat) (I:List α->World->Prop) (Ix:Code->List α->World->Prop) (xs:List α) (W:World):Exit->Act->World->Prop
 | .normal,_,W'=>KeepsOthers W W'/\W'.heap[b]? =W.heap[b]? /\I xs W'
 | .ret,_,W'=>KeepsOthers W W'/\Ix .ret xs W'
 |_,_,_=>False
theorem zDt {P:Program} {α:Type} {g:Operand} {p:Tmp} {assign body:Code} {Q:Exit->Act->World->Prop} {a:Act} {w:World} {gf:Nat} {lb:Array Value}
  (hg:a.eval g= .func (.func gf) #[] lb) (eg:∀args w,(callFunc gf args).run P w= .ok (.enter gf args) w) (enc:α->Value) (b:Nat) (hb:b<w.heap.size) (S:List α)
  (hseq:∀W,Below w.heap.size w W->qGq P gf lb enc b S W)
  (I:List α->World->Prop) (Ix:Code->List α->World->Prop)
  (hI:∀pre W l o o',w.heap.size<=l->W.heap[l]? =some o->o.isCells=false->I pre W->I pre (W.putObj l o'))
  (hIx:∀c pre W l o o',w.heap.size<=l->W.heap[l]? =some o->o.isCells=false->Ix c pre W->Ix c pre (W.putObj l o'))
  (hIS:∀pre A B,I pre A->zJd b A B->I pre B) (h0:∀o o',I [] ((w.alloc o).alloc o')) (a₁:α->Act)
  (hassign:∀(l:Nat) (x:α) (W:World) (K:Act->World->Prop),K (a₁ x) W->
   assign.wpIn (Fence.wide.inRound l) 1 P (Exit.then K (fun _ _ _=>False)) {tmps:=(#[p].zip #[enc x]).foldl (fun t (p,v)=>t.setIfInBounds p v) a.tmps,defers:=[]} W)
  (hbody:∀(l:Nat) (pre:List α) (x:α) (W:World),w.heap.size<W.heap.size->I pre W->pre++[x]<+:S->body.wpIn (Fence.wide.inRound l) 1 P (zJ6 b I Ix (pre++[x]) W) (a₁ x) W)
  (hdone:∀(D:Nat) (W:World),w.heap.size<=D->I S W->W.heap[D]? =some (.deferred (some []))->Q .normal {a with defers:={target:= .collected D,args:= #[]}::a.defers} W)
  (hstop:∀(D:Nat) (c:Code) (pre:List α) (W:World),w.heap.size<=D->pre<+:S->Ix c pre W->W.heap[D]? =some (.deferred (some []))->c.wpIn Fence.wide 3 P Q {a with defers:={target:= .collected D,args:= #[]}::a.defers} W):
  (Code.rangeFunc g #[p] assign body).wpIn Fence.wide 3 P Q a w:=by
 refine wpIn_rangeFunc ?_
 intro fn hfn
 obtain⟨rec,hrec⟩:∃rec:LoopState->Option Code->Loop,rec=fun st pe=>{state:=st,pending:=pe,fn,tmps:=a.tmps,params:= #[p],assign,body,defers:=w.heap.size}:=⟨_,rfl⟩
 obtain⟨W1,hW1⟩:=zB ((w.alloc (.deferred (some []))).alloc (.loop (rec .ready none)))
 have hL1:W1.heap[w.heap.size+1]? =some (.loop (rec .ready none)):=by
  rw[<-hW1]
  have:=World.alloc_heap_new (w.alloc (.deferred (some []))) (.loop (rec .ready none))
  rwa[World.size_alloc]at this
 have hK1:W1.heap[w.heap.size]? =some (.deferred (some [])):=by
  rw[<-hW1]
  exact(Below.heap_alloc _ _ _ (by simp)).trans (World.alloc_heap_new w _)
 have hB1:Below w.heap.size w W1:=by rw[<-hW1];exact((Below.refl _ w).alloc (Nat.le_refl _) _).alloc (by simp) _
 refine⟨w.heap.size+1,[{target:= .collected w.heap.size,args:= #[]}],W1,{target:= .fn (.func gf) lb,args:= #[.func (.yield (w.heap.size+1)) #[] #[]]},W1,gf,
  #[.func (.yield (w.heap.size+1)) #[] #[]]++lb,W1,?_,?_,?_,?_,fun _=>by omega,?_⟩
 ·rw[<-hW1,hrec];exact run_enterLoop_outer _ _ _ _ _
 ·simp only[resolve,hg]
  simp[go_sem]
 ·intro f' hf';trivial
 ·simp[invoke,go_sem,eg]
 ·refine(hseq W1 hB1 (w.heap.size+1)
   (fun pre W=>I pre W/\W.heap[w.heap.size+1]? =some (.loop (rec .ready none))/\W.heap[w.heap.size]? =some (.deferred (some [])))
   (fun pre W=>∃c,Ix c pre W/\W.heap[w.heap.size+1]? =some (.loop (rec .done (some c)))/\W.heap[w.heap.size]? =some (.deferred (some [])))
   (fun pre A B hs h=>⟨hIS pre A B hs.1 h,h.keeps.same _ _ hs.2.1 rfl,h.keeps.same _ _ hs.2.2 rfl⟩)
   ?_ ⟨by rw[<-hW1];exact h0 _ _,hL1,hK1⟩).mono ?_
  ·rintro pre x W ⟨hi,hl,hk⟩ hpre
   have hlt:w.heap.size+1<W.heap.size:=(Array.getElem?_eq_some_iff.1 hl).1
   have hy:=run_yield (P:=P) (args:= #[enc x]) hl (by rw[hrec];rfl)
   rw[hrec]at hy
   refine⟨fn,_,assign,body,hy,roundIn_of_wpIn hfn (hassign _ x W _ ⟨_,run_beginRound hl (by rw[hrec]),?_⟩)⟩
   obtain⟨W2,hW2⟩:=zB (W.putObj (w.heap.size+1) (.loop {rec .ready none with state:= .busy}))
   have hl2:W2.heap[w.heap.size+1]? =some (.loop {rec .ready none with state:= .busy}):=by rw[<-hW2];exact World.putObj_heap_same hlt
   have hk2:W2.heap[w.heap.size]? =some (.deferred (some [])):=by rw[<-hW2];exact(World.putObj_heap_other (by omega)).trans hk
   have hb2:W2.heap[b]? =W.heap[b]? :=by rw[<-hW2];exact World.putObj_heap_other (by omega)
   have hs2:w.heap.size<W2.heap.size:=by have:=(Array.getElem?_eq_some_iff.1 hl2).1;omega
   have hi2:I pre W2:=by rw[<-hW2];exact hI pre W _ _ _ (by omega) hl rfl hi
   have hgoal:body.wpIn (Fence.wide.inRound (w.heap.size+1)) 1 P _ (a₁ x) W2:=hbody (w.heap.size+1) pre x W2 hs2 hi2 hpre
   rw[hW2]
   refine wpIn_mono hgoal ?_
   have fin:∀(jump:Option Code) (W3:World),KeepsOthers W2 W3->
     (Instr.endRound (w.heap.size+1) jump).run P W3= .ok (.bool jump.isNone) (W3.putObj (w.heap.size+1) (.loop (rec (if jump.isNone then .ready else .done) jump)))/\
     W3.heap[w.heap.size+1]? =some (.loop {rec .ready none with state:= .busy})/\
     (W3.putObj (w.heap.size+1) (.loop (rec (if jump.isNone then .ready else .done) jump))).heap[w.heap.size+1]? =some (.loop (rec (if jump.isNone then .ready else .done) jump))/\
     (W3.putObj (w.heap.size+1) (.loop (rec (if jump.isNone then .ready else .done) jump))).heap[w.heap.size]? =some (.deferred (some [])):=fun jump W3 hk3=>by
    have hl3:=hk3.same _ _ hl2 rfl
    have:=run_endRound (P:=P) jump hl3
    rw[hrec]at this⊢
    exact⟨this,by rw[hrec]at hl3;exact hl3,World.putObj_heap_same (Array.getElem?_eq_some_iff.1 hl3).1,(World.putObj_heap_other (by omega)).trans (hk3.same _ _ hk2 rfl)⟩
   rintro e a3 W3 hp
   cases e with
   |normal=>
    obtain⟨hk3,hkp3,hi3⟩:=hp
    obtain⟨hr,hl3,hl4,hk4⟩:=fin none W3 hk3
    exact⟨_,_,hr,.inl ⟨rfl,⟨hI _ _ _ _ _ (by omega) hl3 rfl hi3,hl4,hk4⟩,(World.putObj_heap_other (by omega)).trans (hkp3.trans hb2)⟩⟩
   |ret=>
    obtain⟨hk3,hi3⟩:=hp
    obtain⟨hr,hl3,hl4,hk4⟩:=fin (some .ret) W3 hk3
    exact⟨_,_,hr,.inr ⟨rfl,.ret,hIx _ _ _ _ _ _ (by omega) hl3 rfl hi3,hl4,hk4⟩⟩
   |exit id=>exact hp.elim
   |goto t=>exact hp.elim
   |panic ch=>exact hp.elim
   |outgrown=>exact hp.elim
  ·rintro e W2 ⟨⟨v,rfl⟩,(⟨hi,hl,hk⟩|⟨pre,hSp,c,hi,hl,hk⟩)⟩
   ·exact⟨none,_,by have:=run_endLoop (P:=P) hl (by rw[hrec];simp);rw[hrec]at this;exact this,hdone _ _ (Nat.le_refl _) (hI _ _ _ _ _ (by omega) hl rfl hi) ((World.putObj_heap_other (by omega)).trans hk)⟩
   ·exact⟨some c,_,by have:=run_endLoop (P:=P) hl (by rw[hrec];simp);rw[hrec]at this;exact this,hstop _ c pre _ (Nat.le_refl _) hSp (hIx _ _ _ _ _ _ (by omega) hl rfl hi) ((World.putObj_heap_other (by omega)).trans hk)⟩
end Rle
namespace Rle
open Go.RowKit Go.Shelf
variable {t:ByteArray}
attribute [local go_sem] Oper.semAt_some
@[irreducible] def bs (l:T):ByteArray:=⟨l.toArray⟩
theorem zJ5 (s:ByteArray):bs s.data.toList=s:=by unfold bs;simp
theorem qCh (l:T):(⟨l.toArray⟩:ByteArray)=bs l:=by unfold bs;rfl
theorem zBk (l:T):(bs l).data.toList=l:=by unfold bs;simp
theorem zAl (s:ByteArray):s.data.toList.length=s.size:=by simp
theorem zCh (l:T):(bs l).size=l.length:=by rw[<-zAl,zBk]
theorem zQ6 {s:ByteArray} (h:s.data.toList=t.data.toList):s=t:=by rw[<-zJ5 s,<-zJ5 t,h]
theorem zI0 (s:ByteArray) (i j:Nat):(s.extract i j).data.toList=(s.data.toList.take j).drop i:=by
 rw[ByteArray.data_extract,Array.toList_extract,List.extract_eq_take_drop,List.drop_take]
theorem zNx (l:T) (k:Nat):(bs l).extract 0 k=bs (l.take k):=by
 apply zQ6;rw[zI0,zBk,zBk,List.drop_zero]
theorem zT7 (l:T) (k:Nat):(bs l).extract k (bs l).size=bs (l.drop k):=by
 apply zQ6;rw[zI0,zBk,zBk,zCh,List.take_length]
theorem zLh (s:ByteArray) (k:Nat) (h:k<s.size):s.data.toList[k]'(by rw[zAl];exact h)=s[k]:=rfl
theorem zLo (x y:UInt8):((x.toNat:Int)==(y.toNat:Int))=decide (x=y):=by
 rw[Bool.eq_iff_iff,beq_iff_eq,decide_eq_true_eq]
 exact⟨fun h=>UInt8.toNat_inj.1 (by omega),fun h=>by rw[h]⟩
def zHd (b:Nat) (w:World):Nat:=match w.cell? ⟨b,0,none⟩with
 |some (.string t)=>t.size
 |_=>0
theorem zGn {b:Nat} {w:World} {ty:TypeId} (h:Boxed w b ty (.string t)):zHd b w=t.size:=by unfold zHd;rw[h.cell]
theorem zKu {W:World} {B:Nat} {t:TypeId} {v:Value} (h:Boxed W B t v) (n:Nat):Boxed (W.drewN n) B t v:=h
theorem zHs (b:Nat) (s:ByteArray) (hs:s.size<=100000) (W:World) (hbox:Boxed W b 9 (.string s)):
  qGq Tryz.prog 149 #[.pointer (some ⟨b,0,none⟩)] (fun p:T=> .string (bs p)) b (pcs s.data.toList) W:=by
 intro l J Jx hJ hY h0
 refine callsIn_of_wp Tryz.func149 rfl trivial ?_ rfl
 simp only[Tryz.ntmps149,List.size_toArray,List.length_cons,List.length_nil,Nat.reduceAdd,Nat.reduceSub,Array.replicate_succ,Array.replicate_zero,List.push_toArray,List.append_toArray,List.nil_append,List.cons_append]
 have HBOX:=zH hbox
 have HJ:=zH hJ
 have HY:=zH hY
 have H0:=zH h0
 clear hbox hJ hY h0
 gi_wp2
 gi_loopw [3] (fun v wr=>∃(pre:List T) (r:T),RowKit.Hid (pcs s.data.toList=pre++pcs r)/\r.length<=s.size/\RowKit.Hid (Boxed wr b 9 (.string (bs r)))/\RowKit.Hid (J pre wr))
  (fun _ wr=>zHd b wr)
 case atStart=>exact⟨[],s.data.toList,zH rfl,by rw[zAl];exact Nat.le_refl _,zH (by rw[zJ5];exact HBOX.out),H0⟩
 case round=>
  obtain⟨pre,r,hpre,hrl,hbx,hJs⟩:=hrel
  have hcb:=hbx.out.cell
  have hfb:=hbx.out.frozen
  cases r with
  |nil=>
   have he:bs []=(⟨#[]⟩:ByteArray):=by unfold bs;rfl
   rw[he]at hcb
   clear he
   gi_wp2
   go_end0
   exact⟨⟨_,rfl⟩,.inl (by have h:=hpre.out;rw[zB6,List.append_nil]at h;rw[h];exact hJs.out)⟩
  |cons x r=>
   obtain⟨t,ht⟩:=zB (bs (x::r))
   have hts:t.size=(x::r).length:=by rw[<-ht,zCh]
   have hemp:t.toList.isEmpty=false:=by rw[Lib.toList_data,<-ht,zBk];rfl
   have hget:∀k (h:k<t.size) (h2:k<(x::r).length),t[k]=(x::r)[k]:=by
    intro k h h2;subst ht;rw[<-zLh (bs (x::r)) k h];simp only[zBk]
   have hpos:0<t.size:=by rw[hts];simp
   have ht100:t.size<=100000:=by rw[hts];omega
   obtain⟨M,hM,hM1,hM2,hM3⟩:=Kit.zJ3 t.size 255 255 rfl
   have hMm:min (t.size:Int) 255=(M:Int):=by have:=hM3.out;omega
   rw[ht]at hcb
   have hx0:t[0]'hpos=x:=hget 0 hpos (by simp)
   have HX0:=zH hx0
   have HT:=zH ht
   have HTS:=zH hts
   have HGET:=zH hget
   clear ht hts hget hx0
   obtain⟨wo,rfl⟩:∃wo:World,wo=wr:=⟨_,rfl⟩
   gi_wp2
   gi_loopw [3] (fun v wr=>∃k:Nat,1<=k/\k<=M/\v= .int .i64 k/\RowKit.Hid ((x::r).take k=List.replicate k x)/\RowKit.Hid (∃m,wr=wo.drewN m))
    (fun v _=>256-(intOf v).toNat)
   case atStart=>exact⟨1,Nat.le_refl _,by have:=hM3.out;omega,rfl,zH (by simp),zH ⟨0,by simp[World.drewN]⟩⟩
   case round=>
    obtain⟨k,hk1,hkM,rfl,htk,hw⟩:=hrel
    obtain⟨m0,hm0⟩:=hw.out
    have hbw:Boxed wr b 9 (.string t):=by rw[hm0,<-HT.out];exact zKu hbx.out m0
    have HBW:=zH hbw
    have hcw:=hbw.cell
    have hfw:=hbw.frozen
    have hJw:=HJ.out pre wo wr hJs.out (.inl ⟨m0,hm0⟩)
    have HJW:=zH hJw
    clear hbw hm0 hJw
    have j0:(0:Int)<=(k:Int):=by omega
    have j1:(0:Int)<=(0:Int):=by omega
    have j2:(0:Int)<(t.size:Int):=by omega
    have hways:(∃h:k<t.size,k<M/\t[k]=t[0]'hpos)\/(¬k<M/\zAi (x::r)=k)\/(∃h:k<t.size,k<M/\¬t[k]=t[0]'hpos/\zAi (x::r)=k):=by
     have hl:=HTS.out
     have hm:=hM3.out
     by_cases h1:k<M
     ·have h2:k<t.size:=by omega
      by_cases h3:t[k]=t[0]'hpos
      ·exact .inl ⟨h2,h1,h3⟩
      ·refine .inr (.inr ⟨h2,h1,h3,zJl x r k hk1 (by omega) (by omega) htk.out (.inr (.inr ⟨by omega,?_⟩))⟩)
       rw[<-HGET.out k h2 (by omega)]
       rw[HX0.out]at h3
       exact h3
     ·refine .inr (.inl ⟨h1,zJl x r k hk1 (by omega) (by omega) htk.out ?_⟩)
      by_cases h4:k=255
      ·exact .inl h4
      ·exact .inr (.inl (by omega))
    rcases hways with⟨h2,h1,h3⟩|hstop
    ·have hbe:=zLo t[k] (t[0]'hpos)
     rw[decide_eq_true h3]at hbe
     have j3:(k:Int)<(t.size:Int):=by omega
     have hnext:(x::r).take (k+1)=List.replicate (k+1) x:=by
      have hl:k<(x::r).length:=by have:=HTS.out;omega
      rw[List.take_succ_eq_append_getElem hl,htk.out,<-HGET.out k h2 hl,h3,HX0.out,List.replicate_succ']
     have HNX:=zH hnext
     clear h3 hnext
     gi_wp2
     gi_quiet (fail)
     gi_wp2
     go_roundw
     case rel=>
      obtain⟨m0,hm0⟩:=hw.out
      exact⟨k+1,by omega,by omega,by go_num,HNX,zH ⟨m0+nq,by rw[hm0,World.drewN_drewN]⟩⟩
     case measure=>simp[intOf];omega
    ·have hrun:zAi (x::r)=k:=by
      rcases hstop with⟨_,h⟩|⟨_,_,_,h⟩<;>exact h
     have hkl:k<=(x::r).length:=by have:=HTS.out;omega
     have hsl:t.extract 0 k=bs ((x::r).take k):=by rw[<-HT.out,zNx]
     have hdr:t.extract k t.size=bs ((x::r).drop k):=by rw[<-HT.out,zT7]
     have hp:=hpre.out
     rw[zBq (x::r) (by simp),hrun]at hp
     have HP:=zH hp
     have HRUN:=zH hrun
     have j4:(k:Int)<=(t.size:Int):=by omega
     have HDR:=zH hdr
     have hlast:RowKit.Hid ((¬k<M)\/(∃h:k<t.size,k<M/\¬t[k]=t[0]'hpos)):=by
      rcases hstop with⟨h,_⟩|⟨h2,h1,h3,_⟩
      ·exact .inl h
      ·exact .inr ⟨h2,h1,h3⟩
     have HSL:=zH hsl
     clear hp hrun hstop hdr hsl
     rcases hlast.out with h|⟨h2,h1,h3⟩
     all_goals
      try have hbe:=zLo t[k] (t[0]'hpos)
      try rw[decide_eq_false h3]at hbe
      try have j3:(k:Int)<(t.size:Int):=by omega
      try clear h3
      gi_wp2
      gi_quiet (fail)
      obtain⟨W1,hW1⟩:=zB (wr.drewN nq)
      have hb1:Boxed W1 b 9 (.string t):=by rw[<-hW1];exact zKu HBW.out nq
      have hj1:J pre W1:=by rw[<-hW1];exact HJ.out pre _ _ HJW.out (.inl ⟨nq,rfl⟩)
      have hlz:zHd b wo=t.size:=by rw[zGn hbx.out,HT.out]
      rw[hW1]
      have hc1:=hb1.cell
      have hf1:=hb1.frozen
      have HB1:=zH hb1
      have HLZ:=zH hlz
      have HSL2:=HSL
      have hsl:=HSL.out
      obtain⟨fn,tmps,assign,body,hy,hR⟩:=HY.out pre ((x::r).take k) W1 hj1 (by rw[HP.out];exact⟨pcs ((x::r).drop k),by simp⟩)
      clear hW1 hb1 hlz hj1 hcw hfw hcb hfb
      gi_wp2
      refine hR.mono ?_
      rintro e W3 (⟨rfl,hJ3,hk3⟩|⟨rfl,hJx3⟩)
      ·have hb3:Boxed W3 b 9 (.string t):=hk3.trans HB1.out
       have hc3:=hb3.cell
       have hf3:=hb3.frozen
       have hb4:=hb3.set (.string (t.extract k t.size))
       have hj4:=HJ.out _ W3 _ hJ3 (.inr ⟨.string (t.extract k t.size),rfl⟩)
       have HB4:=zH hb4
       have HJ4:=zH hj4
       clear hb3 hb4 hj4 hk3 hJ3 hsl
       gi_wp2
       go_roundw
       case rel=>
        refine⟨pre++[(x::r).take k],(x::r).drop k,zH (by rw[HP.out];simp),by rw[List.length_drop];omega,?_,HJ4⟩
        rw[<-HDR.out]
        exact HB4
       case measure=>
        rw[zGn HB4.out,HLZ.out,HDR.out,zCh,List.length_drop]
        have:=HTS.out
        omega
      ·gi_wp2
       refine bodyPost_ret (results_none rfl _ _ _) rfl ?_
       exact⟨⟨_,rfl⟩,.inr ⟨_,by rw[HP.out];exact⟨pcs ((x::r).drop k),by simp⟩,hJx3⟩⟩
end Rle
namespace Rle
open Go.RowKit Go.Shelf
variable {b l c B:Nat} {w w' A:World} {v:Value} {o:Obj}
attribute [local go_sem] Oper.semAt_some
theorem zBw {k:IntKind} {a b:Int} (h:a=b):Ending.returned (.int k a)= .returned (.int k b):=by rw[h]
theorem zHt (s:ByteArray) (w:World):
  Calls Tryz.prog 73 #[.string s] w fun e w'=>e= .returned (.func (.func 149) #[] #[.pointer (some ⟨w.heap.size,0,none⟩)])/\w.alloc (.cells #[.string s] 9)=w':=by
 go_enter Tryz.func73,Tryz.ntmps73
 go_wp2
 go_ret
 exact⟨rfl,rfl⟩
theorem zH3 (n:Nat) (hn:n<=1000) (w:World):
  Calls Tryz.prog 147 #[.int .i64 (n:Int)] w fun e w'=>e= .returned (.int .i64 (zAv n:Int))/\w=w':=by
 by_cases h:n<4
 ·have e:zAv n=n:=by unfold zAv;rw[if_pos h]
  rw[e]
  clear e
  go_enter Tryz.func147,Tryz.ntmps147
  go_wp2
  go_ret
  exact⟨rfl,rfl⟩
 ·have e:zAv n=5:=by unfold zAv;rw[if_neg h]
  rw[e]
  clear e
  go_enter Tryz.func147,Tryz.ntmps147
  go_wp2
  go_ret
  exact⟨rfl,rfl⟩
theorem zJq (s x:T) (h:x∈pcs s):1<=x.length/\x.length<=255:=by
 revert h
 refine zEi (M:=fun s=>x∈pcs s->1<=x.length/\x.length<=255) (fun h=>by rw[zB6]at h;cases h) (fun s hs ih h=> ?_) s
 rw[zBq s hs,List.mem_cons]at h
 rcases h with rfl|h
 ·rw[zDo];exact⟨zBz s hs,zEj s⟩
 ·exact ih h
theorem zGy {s:T} {pre:List T} {x:T} (h:pre++[x]<+:pcs s):x.length<=255/\1<=x.length/\lens pre+zAv x.length<=Len s/\(pre.map List.length).sum+x.length<=s.length:=by
 obtain⟨h1,h2⟩:=zQt _ s h
 obtain⟨k1,k2⟩:=zJq s x (h.subset (by simp))
 refine⟨k2,k1,?_,?_⟩
 ·rw[zG0]at h1
  unfold lens at*
  simpa using h1
 ·simpa using h2
theorem zGm (pre:List T) (x:T):lens (pre++[x])=lens pre+zAv x.length:=by rw[zG0];unfold lens;simp
structure Var (W:World) (b:Nat) (v:Value):Prop where
 cell:W.cell? ⟨b,0,none⟩=some v
 free:W.frozen? ⟨b,0,none⟩=false
theorem Var.new (w:World) (v:Value) (t:TypeId):Var (w.alloc (.cells #[v] t)) w.heap.size v:=⟨by simp,by simp⟩
theorem Var.alloc (h:Var w b v) (o:Obj):Var (w.alloc o) b v:=
 ⟨by rw[World.cell?_of_block (w:=w) (a:=⟨b,0,none⟩)];exact h.cell;exact Lib.alloc_old w o b (block_lt_of_cell h.cell),
  by rw[World.frozen?_of_block (w:=w) (a:=⟨b,0,none⟩)];exact h.free;exact Lib.alloc_old w o b (block_lt_of_cell h.cell)⟩
theorem Var.of_block (h:Var w b v) (e:w'.heap[b]? =w.heap[b]?):Var w' b v:=
 ⟨by rw[World.cell?_of_block (w:=w) (a:=⟨b,0,none⟩) e];exact h.cell,by rw[World.frozen?_of_block (w:=w) (a:=⟨b,0,none⟩) e];exact h.free⟩
theorem Var.put (h:Var w b v) (o':Obj) (hl:w.heap[l]? =some o) (ho:o.isCells=false):Var (w.putObj l o') b v:=by
 refine h.of_block (World.putObj_heap_other ?_)
 rintro rfl
 obtain⟨o2,h2,h3⟩:=cells_of_cell h.cell
 rw[hl]at h2
 obtain rfl:=Option.some.inj h2
 rw[ho]at h3;cases h3
theorem Var.zLc (h:Var w b v) (ho:zJd c w w') (hne:b≠c):Var w' b v:=by
 rcases ho with⟨n,rfl⟩|⟨u,rfl⟩
 ·exact h.of_block rfl
 ·exact h.of_block (Below.heap_setCell _ _ _ _ hne)
theorem Var.set (h:Var w b v) (u:Value):Var (w.setCell ⟨b,0,none⟩ u) b u:=
 ⟨World.cell?_setCell_same _ _ _ h.cell,by rw[World.frozen?_setCell];exact h.free⟩
theorem Var.other (h:Var w b v) (u:Value) (hne:b≠c):Var (w.setCell ⟨c,0,none⟩ u) b v:=h.zLc (.inr ⟨u,rfl⟩) hne
theorem below_drewN {D:Nat} (h:Below D w w') (n:Nat):Below D w (w'.drewN n):=h.trans ⟨rfl,rfl,rfl,Nat.le_refl _,fun _ _=>rfl⟩
theorem zIh {C:World} (h:Below B w A) (ho:zJd b A C) (hb:B<=b):Below B w C:=by
 rcases ho with⟨n,rfl⟩|⟨u,rfl⟩
 ·exact below_drewN h n
 ·exact h.setCell (p:=⟨b,0,none⟩) hb _
theorem zAu (o':Obj) (h:Below B w A) (hl:A.heap[l]? =some o) (hB:B<=l) (hw:B<=A.heap.size):Below B w (A.putObj l o'):=
 h.trans ((Below.refl B A).grown (grownBy_putObj' A l o') hw (fun k e=>by cases e;exact hB))
theorem zVz (s:ByteArray) (hs:s.size<=100000) (w:World):
  Calls Tryz.prog 68 #[.string s] w fun e w'=>e= .returned (.int .i64 (Len s.data.toList:Int))/\Below w.heap.size w w':=by
 refine(callsIn_wide (n:=3)).1 ?_
 refine callsIn_of_wp_marks Tryz.func68 rfl trivial ?_ rfl
 simp only[Tryz.ntmps68,List.size_toArray,List.length_cons,List.length_nil,Nat.reduceAdd,Nat.reduceSub,Array.replicate_succ,Array.replicate_zero,List.push_toArray,List.append_toArray,List.nil_append,List.cons_append]
 gi_wp2_with fail
 refine⟨trivial,(callsIn_wide.2 (zHt s _)).mono ?_⟩
 rintro e w1 ⟨rfl,rfl⟩
 gi_wp2
 have hv:=(Var.new w (.int .i64 0) 3).alloc (.cells #[.string s] 9)
 have hbox:=Boxed.new (w.alloc (.cells #[.int .i64 0] 3)) 9 (.string s)
 obtain⟨W0,hW0⟩:=zB ((w.alloc (.cells #[.int .i64 0] 3)).alloc (.cells #[.string s] 9))
 have hsz:W0.heap.size=w.heap.size+2:=by rw[<-hW0];simp
 have hB0:Below w.heap.size w W0:=by rw[<-hW0];exact((Below.refl _ w).alloc (Nat.le_refl _) _).alloc (by simp) _
 rw[hW0]at hv hbox⊢
 rw[World.size_alloc]at hbox
 have HV:=zH hv
 have HBOX:=zH hbox
 have HB0:=zH hB0
 have hLen:=(zBu s.data.toList).1
 rw[zAl]at hLen
 have hLs:Len s.data.toList<=125000:=by omega
 have hn:w.heap.size≠w.heap.size+1:=by omega
 clear hv hbox hB0 hW0 hLen
 refine zDt (gf:=149) (lb:= #[.pointer (some ⟨w.heap.size+1,0,none⟩)]) rfl (enters_of Tryz.func149 (by kernel_rfl) rfl) (fun p:T=> .string (bs p)) (w.heap.size+1) (by omega) (pcs s.data.toList)
  (fun W hW=>zHs _ s hs W ((hW.block _ (by omega)).trans HBOX.out))
  (fun pre W=>Var W w.heap.size (.int .i64 (lens pre:Int))/\Below w.heap.size w W/\W0.heap.size<=W.heap.size)
  (fun _ _ _=>False)
  (fun pre W l o o' hl ho hc hi=>⟨hi.1.put o' ho hc,zAu o' hi.2.1 ho (by omega) (by omega),by rw[World.putObj];simpa using hi.2.2⟩)
  (fun _ _ _ _ _ _ _ _ _ h=>h)
  (fun pre A B hi ho=>⟨hi.1.zLc ho hn,zIh hi.2.1 ho (by omega),Nat.le_trans hi.2.2 ho.keeps.size⟩)
  (fun o o'=>⟨(HV.out.alloc o).alloc o',(HB0.out.alloc (by omega) o).alloc (by simp;omega) o',by simp;omega⟩)
  (fun x=>{tmps:= #[.string s,undef,.pointer (some ⟨w.heap.size,0,none⟩),.string (bs x),.string s,.func (.func 149) #[] #[.pointer (some ⟨w.heap.size+1,0,none⟩)],.string (bs x),undef,undef,undef,undef,undef,undef],defers:=[]}) ?assign ?body ?done ?stop
 case assign=>
  intro l x W K hK
  gi_wp2
  exact hK
 case body=>
  rintro l pre x W hsW ⟨hv,hB,hz⟩ hpre
  obtain⟨f1,f2,f3,f4⟩:=zGy hpre
  have hc:=hv.cell
  have hf:=hv.free
  have hbx:=zCh x
  have HV:=zH hv
  have hlp:lens pre<=125000:=by omega
  have hpl:=zTl x.length
  clear f3 f4 hv
  gi_wp2
  gi_region_with ((refine⟨trivial,?_⟩;gi_at_call 147;refine(CallsIn.inRound l (callsIn_wide.2 (zH3 x.length (by omega) _))).mono ?_;rintro e w' ⟨rfl,rfl⟩))
  all_goals
   gi_wp2
   have hwr:IntKind.i64.wrap ((lens pre:Int)+(zAv x.length:Int))=(lens pre:Int)+(zAv x.length:Int):=IntWalk.i64_in _ (by omega)
   rw[hwr]
   have hv2:=(HV.out.set (.int .i64 ((lens pre:Int)+(zAv x.length:Int)))).zLc (c:=w.heap.size+1) (.inl ⟨1,rfl⟩) hn
   refine⟨?_,?_,?_,?_,?_⟩
   ·exact(KeepsOthers.setCell _ _ _).trans (KeepsOthers.drew _)
   ·exact(Below.heap_setCell _ _ _ _ (Ne.symm hn))
   ·rw[zGm,Int.natCast_add];exact hv2
   ·exact(hB.setCell (p:=⟨w.heap.size,0,none⟩) (Nat.le_refl _) _).drew
   ·simp[World.setCell];exact hz
 case done=>
  rintro D W hD ⟨hv,hB,hz⟩ hK
  have hc:=hv.cell
  have hf:=hv.free
  have HV:=zH hv
  clear hv
  gi_wp2
  have hK':=(KeepsOthers.setCell W ⟨w.heap.size,0,none⟩ (.int .i64 (lens (pcs s.data.toList):Int))).same D _ hK rfl
  refine⟨by simp,.inl ⟨_,_,rfl,run_takeDeferred hK',?_⟩⟩
  have hv5:=(HV.out.set (.int .i64 (lens (pcs s.data.toList):Int))).put (.deferred none) hK' rfl
  have hc5:=hv5.cell
  refine⟨.int .i64 (Len s.data.toList:Int),?_,rfl,?_⟩
  ·rw[<-zQ7];simp[results,Tryz.f68,go_sem,hc5]
  ·exact zAu _ (hB.setCell (p:=⟨w.heap.size,0,none⟩) (Nat.le_refl _) _) hK' (by omega) (by simp[World.setCell];omega)
 case stop=>
  rintro D c pre W _ _ h _
  exact h.elim
end Rle
namespace Rle
open Go.RowKit Go.Shelf
variable {o:Obj} {A C:World} {B b k l:Nat} {v:Value} {t:TypeId}
attribute [local go_sem] Oper.semAt_some
theorem zW7 (x:T) (h:x.length<4):pk1 x=x:=by unfold pk1;rw[if_pos h]
theorem zZz (x:T) (h:¬x.length<4):pk1 x=x.take 4++[UInt8.ofNat (x.length-4)]:=by unfold pk1;rw[if_neg h]
theorem zZ4 (pre:List T):(pre.flatMap pk1).length=lens pre:=by
 unfold lens
 rw[List.length_flatMap]
 congr 1
 exact List.map_congr_left fun p _=>zMc p
theorem zOn (h:o.isCells=false):∀t,∀c fz,o≠ .cells c t fz:=by
 rintro t c fz rfl
 cases h
theorem Bld.zLc {l:T} (h:Bld A B b l) (hbx:Boxed A k t v) (h1:t≠TB) (h2:t≠TY) (ho:zJd k A C):Bld C B b l:=by
 rcases ho with⟨n,rfl⟩|⟨u,rfl⟩
 ·exact h.kept (row:=none) ⟨rfl,rfl,rfl,Nat.le_refl _,fun _ _ _=>rfl⟩ (fun r e=>by cases e)
 ·refine h.kept (row:=some k) (grownBy_setCell' A k u) (fun r e=> ?_)
  cases e
  refine⟨_,hbx,?_,?_⟩
  ·intro c fz e;injection e with _ e2 _;exact h1 e2
  ·intro c fz e;injection e with _ e2 _;exact h2 e2
theorem qBg (hbx:Boxed A k t v) (ho:zJd k A C):∃u,Boxed C k t u:=by
 rcases ho with⟨n,rfl⟩|⟨u,rfl⟩
 ·exact⟨v,hbx⟩
 ·exact⟨u,hbx.set u⟩
theorem qEb (o':Obj) (hbx:Boxed A k t v) (hl:A.heap[l]? =some o) (ho:o.isCells=false):Boxed (A.putObj l o') k t v:=by
 refine(World.putObj_heap_other ?_).trans hbx
 rintro rfl
 rw[show A.heap[k]? =_ from hbx]at hl
 obtain rfl:=Option.some.inj hl
 cases ho
theorem Bld.put {m:T} (o':Obj) (h:Bld A B b m) (hl:A.heap[l]? =some o) (ho:o.isCells=false):Bld (A.putObj l o') B b m:=
 h.kept (grownBy_putObj' A l o') (fun r e=>by cases e;exact⟨o,hl,zOn ho _,zOn ho _⟩)
theorem Bld.alloc {m:T} (h:Bld A B b m) (o:Obj):Bld (A.alloc o) B b m:=
 h.kept (World.grownBy_alloc A o none) (fun r e=>by cases e)
theorem zR8 (s:ByteArray) (hs:s.size<=100000) (w:World):
  Calls Tryz.prog 18 #[.string s] w fun e w'=>e= .returned (.string (bs (pack s.data.toList)))/\Below w.heap.size w w':=by
 refine(callsIn_wide (n:=3)).1 ?_
 refine callsIn_of_wp_marks Tryz.func18 rfl trivial ?_ rfl
 simp only[Tryz.ntmps18,List.size_toArray,List.length_cons,List.length_nil,Nat.reduceAdd,Nat.reduceSub,Array.replicate_succ,Array.replicate_zero,List.push_toArray,List.append_toArray,List.nil_append,List.cons_append]
 gi_wp2_with fail
 refine⟨trivial,(callsIn_wide.2 (zHt s _)).mono ?_⟩
 rintro e w1 ⟨rfl,rfl⟩
 gi_wp2
 have hv:=(Bld.new w).alloc (.cells #[.string s] 9)
 have hbox:=Boxed.new (w.alloc (.cells #[.pointer none,.slice none 0 0] 120)) 9 (.string s)
 obtain⟨W0,hW0⟩:=zB ((w.alloc (.cells #[.pointer none,.slice none 0 0] 120)).alloc (.cells #[.string s] 9))
 have hsz:W0.heap.size=w.heap.size+2:=by rw[<-hW0];simp
 have hB0:Below w.heap.size w W0:=by rw[<-hW0];exact((Below.refl _ w).alloc (Nat.le_refl _) _).alloc (by simp) _
 rw[hW0]at hv hbox⊢
 rw[World.size_alloc]at hbox
 have HV:=zH hv
 have HBOX:=zH hbox
 have HB0:=zH hB0
 have hLen:=(zBu s.data.toList).1
 rw[zAl]at hLen
 have hLs:Len s.data.toList<=125000:=by omega
 have hn:w.heap.size≠w.heap.size+1:=by omega
 clear hv hbox hB0 hW0 hLen
 refine zDt (gf:=149) (lb:= #[.pointer (some ⟨w.heap.size+1,0,none⟩)]) rfl (enters_of Tryz.func149 (by kernel_rfl) rfl) (fun p:T=> .string (bs p)) (w.heap.size+1) (by omega) (pcs s.data.toList)
  (fun W hW=>zHs _ s hs W ((hW.block _ (by omega)).trans HBOX.out))
  (fun pre W=>Bld W w.heap.size w.heap.size (pre.flatMap pk1)/\(∃v,Boxed W (w.heap.size+1) 9 v)/\Below w.heap.size w W/\W0.heap.size<=W.heap.size)
  (fun _ _ _=>False)
  (fun pre W l o o' hl ho hc hi=>⟨hi.1.put o' ho hc,⟨hi.2.1.choose,qEb o' hi.2.1.choose_spec ho hc⟩,zAu o' hi.2.2.1 ho (by omega) (by omega),by rw[World.putObj];simpa using hi.2.2.2⟩)
  (fun _ _ _ _ _ _ _ _ _ h=>h)
  (fun pre A B hi ho=>⟨hi.1.zLc hi.2.1.choose_spec (by decide) (by decide) ho,qBg hi.2.1.choose_spec ho,zIh hi.2.2.1 ho (by omega),Nat.le_trans hi.2.2.2 ho.keeps.size⟩)
  (fun o o'=>⟨(HV.out.alloc o).alloc o',⟨_,(HBOX.out.alloc o).alloc o'⟩,(HB0.out.alloc (by omega) o).alloc (by simp;omega) o',by simp;omega⟩)
  (fun x=>{tmps:= #[.string s,undef,.string ⟨#[]⟩,.pointer (some ⟨w.heap.size,0,none⟩),.string (bs x),.string s,.func (.func 149) #[] #[.pointer (some ⟨w.heap.size+1,0,none⟩)],.string (bs x),undef,undef,undef,undef,undef,undef,undef,undef,undef,undef,undef,undef,undef,undef,undef],defers:=[]}) ?assign ?body ?done ?stop
 case assign=>
  intro l x W K hK
  gi_wp2
  exact hK
 case body=>
  rintro l pre x W hsW ⟨hv,⟨u,hbx1⟩,hB,hz⟩ hpre
  obtain⟨f1,f2,f3,f4⟩:=zGy hpre
  have hbx:=zCh x
  have hpl:=zZ4 pre
  have hll:(pre.flatMap pk1).length<=125000:=by rw[hpl];omega
  have hone:(pre++[x]).flatMap pk1=pre.flatMap pk1++pk1 x:=by simp
  obtain⟨M,hM,hM1,hM2,hM3⟩:=Kit.zJ3 x.length 4 4 rfl
  have hMm:min (x.length:Int) 4=(M:Int):=by have:=hM3.out;omega
  have hsl:(bs x).extract 0 M=bs (x.take M):=zNx x M
  have hts:(bs (x.take M)).size<=4:=by rw[zCh,List.length_take];omega
  have HV:=zH hv
  have HBX:=zH hbx1
  have HSL:=zH hsl
  have HONE:=zH hone
  have HLL:=zH hll
  clear f3 f4 hv hbx1 hsl hone hpl hll
  by_cases h4:x.length<4
  ·gi_wp2_with fail
   rw[HSL.out]
   refine⟨trivial,(CallsIn.inRound l (callsIn_wide.2 (zB8 w.heap.size w.heap.size _ (bs (x.take M)) W HV.out (by have:=HLL.out;omega) (by omega)))).mono ?_⟩
   rintro e w1 ⟨rfl,h1,hb1,hk1,hz1⟩
   gi_wp2
   refine⟨HV.out.keeps hk1 hz1,zDg hk1 HBX.out (by omega) (by decide),?_,⟨u,(zDg hk1 HBX.out (by omega) (by decide)).trans HBX.out⟩,hB.trans hb1,by omega⟩
   rw[HONE.out,zW7 x h4]
   rw[zBk,List.take_of_length_le (by have:=hM3.out;omega)]at h1
   exact h1
  ·have hcb:((x.length:Int)-4)=((UInt8.ofNat (x.length-4)).toNat:Int):=by rw[UInt8.toNat_ofNat'];omega
   have HCB:=zH hcb
   clear hcb
   gi_wp2_with fail
   rw[HSL.out]
   refine⟨trivial,(CallsIn.inRound l (callsIn_wide.2 (zB8 w.heap.size w.heap.size _ (bs (x.take M)) W HV.out (by have:=HLL.out;omega) (by omega)))).mono ?_⟩
   rintro e w1 ⟨rfl,h1,hb1,hk1,hz1⟩
   have hc1:=zDg hk1 HBX.out (by omega) (by decide)
   have hl1:((pre.flatMap pk1)++(bs (x.take M)).data.toList).length+1<=1000000000:=by rw[List.length_append,zAl];have:=HLL.out;omega
   have H1:=zH h1
   have HC1:=zH hc1
   have HL1:=zH hl1
   clear h1 hc1 hl1
   gi_wp2_with fail
   rw[HCB.out]
   refine⟨trivial,(CallsIn.inRound l (callsIn_wide.2 (zE7 w.heap.size w.heap.size _ (UInt8.ofNat (x.length-4)) w1 H1.out HL1.out (by omega)))).mono ?_⟩
   rintro e w2 ⟨rfl,h2,hb2,hk2,hz2⟩
   have hc2:w2.heap[w.heap.size+1]? =W.heap[w.heap.size+1]? :=(zDg hk2 (HC1.out.trans HBX.out) (by omega) (by decide)).trans HC1.out
   gi_wp2
   refine⟨(HV.out.keeps hk1 hz1).trans (H1.out.keeps hk2 hz2),hc2,?_,⟨u,hc2.trans HBX.out⟩,(hB.trans hb1).trans hb2,by omega⟩
   rw[HONE.out,zZz x h4]
   rw[zBk,show M=4 from by have:=hM3.out;omega,List.append_assoc]at h2
   exact h2
 case done=>
  rintro D W hD ⟨hv,⟨u,hbx1⟩,hB,hz⟩ hK
  have HV:=zH hv
  clear hv
  gi_wp2_with fail
  refine⟨trivial,(callsIn_wide.2 (zD0 w.heap.size w.heap.size _ W HV.out (by omega))).mono ?_⟩
  rintro e w2 ⟨rfl,hb2,hk2⟩
  have hK2:=hk2 D _ hK (by intro e;injection e with e;omega) (by intro c fz e;cases e)
  gi_wp2
  refine⟨by simp,.inl ⟨_,_,rfl,run_takeDeferred hK2,?_⟩⟩
  refine⟨_,results_tmp rfl _ _ _,?_,zAu _ (hB.trans hb2) hK2 (by omega) (by have:=(hB.trans hb2).size;omega)⟩
  rw[<-qCh]
  rfl
 case stop=>
  rintro D c pre W _ _ h _
  exact h.elim
end Rle
end Go.Proofs.YtppnakkaljbmbaaGreatDoor
