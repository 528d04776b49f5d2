/- Steps of a proof; no condition beyond what each states. -/
import Derived.HandedShaped
import Derived.LaidMore
import Derived.Lay
import Derived.Shelf.Vars
import Derived.Stop.Joined
import Derived.Test.YtppnakkaljbmbaaGreatDoorRows
import Derived.Test.YtppnakkaljbmbaaGreatDoorZU17
set_option linter.unusedVariables false
set_option linter.unusedSimpArgs false
set_option maxRecDepth 100000
set_option maxHeartbeats 8000000
namespace Go.Proofs.YtppnakkaljbmbaaGreatDoor
namespace Kit
open Go.RowKit
section
variable {P:Program} {ops:Array Oper} {Q:Exit->Act->World->Prop} {md:Region.Mode}
theorem zQb {n:Nat} {row:String} {args:Array Value} {w:World} {R:Value->World->Prop} (h:Rows P row args w R):RowsIn Fence.wide n P row args w R:=by
 intro c cs _
 obtain⟨v,w',r,s⟩:=h c cs
 exact⟨v,w',r,stepsIn_wide.2 s⟩
theorem zYz (n:Nat) {o:Oper} {a:Act} {K:Act->World->Prop}:∀{r:Result Next},o.upon P a K (zDy Q) r->o.uponIn Fence.wide n P a K Q r
 | .ok (.value v) w',h=>h
 | .ok .skip w',h=>h
 | .ok (.defer d) w',h=>h
 | .ok (.enter f args) w',h=>⟨(fun hd=>by cases hd),callsIn_wide.2 (Calls.mono h (fun e w'' he=>by
   cases e with
   |returned v=>exact he
   |panicked c=>exact he
   |outgrown=>exact(zGa he).elim))⟩
 | .ok (.row row args) w',h=>⟨(fun hd=>by cases hd),zQb h⟩
 | .ok (.round _ _ _ _ _) w',h=>h.elim
 | .halt (.panic v) w',h=>h
theorem qFi (n:Nat) {o:Oper} {a:Act} {w:World} {K:Act->World->Prop} (hd:∀c,o.op≠ .defer c) (h:Oper.wp P o a w K (zDy Q)):o.wpIn Fence.wide n P a w K Q:=by
 unfold Oper.wpIn
 refine⟨fun _ _=>trivial,?_⟩
 rw[Oper.semAt_plain _ _ _ hd]
 exact zYz n h
theorem zJ9 (n:Nat) (hd:∀(i:Nat) (o:Oper),ops[i]? =some o->∀c,o.op≠ .defer c):∀(fuel:Nat) (listed:Array Bool) (a:Act) (w:World),wpAny P md ops (zDy Q) fuel listed a w->wpAnyIn Fence.wide n P md ops Q fuel listed a w
 |0,_,_,_,h=>h
 |fuel+1,listed,a,w,h=>by
  refine⟨h.1,fun i hi=> ?_⟩
  have hop:=h.2 i hi
  unfold wpOp at hop
  unfold wpOpIn
  cases ho:ops[i]? with
  |none=>rw[ho]at hop;exact zJ9 n hd fuel _ _ _ hop
  |some o=>
   rw[ho]at hop
   simp only at hop⊢
   split at hop
   ·next hw=>rw[if_pos hw];exact Oper.wpIn_mono (fun a w=>zJ9 n hd fuel _ a w) (qFi n (hd i o ho) (hop.resolve_right (fun h=>zGa h.2)))
   ·next hw=>rw[if_neg hw];exact⟨fun _ _=>trivial,zJ9 n hd fuel _ _ _ hop⟩
theorem zRk {id n:Nat} {a:Act} {w:World} (hm:P.follows .mixedOrders=true) (hd:zJu ops=true) (h:wpAny P .any ops (zDy Q) ops.size (Array.replicate ops.size false) a w.drew):(Code.region id ops true).wpIn Fence.wide n P Q a w:=by
 refine wpIn_region_any hm (zJ9 n (fun i o hi c hc=> ?_) _ _ _ _ h)
 have h1:=(Array.all_eq_true_iff_forall_mem.1 hd) o (Array.mem_of_getElem? hi)
 rw[hc]at h1
 cases h1
theorem zIq {id k:Nat} {a:Act} {w:World} (hd:zJu ops=true) (D:List Nat) (S:World->Prop) (ms:List Nat) (n:Nat) (hm:P.follows .mixedOrders=true) (hn:ops.size=n) (hs:Region.noSelect ops=true) (hw:ops.toList.map (zC .any)=ms) (ha:zD ops ops.toList ms ops.toList ms 0=true)
  (h:At_ P .any ops (zDy Q) D S ms n 0 a w.drew):(Code.region id ops true).wpIn Fence.wide k P Q a w:=
 zRk hm hd (zP2 D S ms n hn hs hw ha h)
theorem zRh {D:List Nat} {S:World->Prop} {ms:List Nat} {a:Act} {w:World} {f L:Nat} (hr:zA1 L ms 0=[]) (h:Q .normal a w):At_ P md ops (zDy Q) D S ms f L a w:=qA5 hr h
end
end Kit
namespace Kit
open Go.RowKit
section
variable {P:Program} {ops:Array Oper} {Q:Exit->Act->World->Prop} {md:Region.Mode} {D:List Nat} {S:World->Prop} {ms:List Nat}
def zPp (n L:Nat):Nat:=((List.range n).filter fun i=> !L.testBit i).length
theorem zQ9 {n L i:Nat} (hi:i<n) (hb:L.testBit i=false):zPp n L=zPp n (L|||1<<<i)+1:=by
 unfold zPp
 have key:∀(l:List Nat),l.Nodup->i∈l->(l.filter fun j=> !L.testBit j).length=(l.filter fun j=> !(L|||1<<<i).testBit j).length+1:=by
  intro l
  induction l with
  |nil=>intro _ h;cases h
  |cons x l ih=>
   intro hn hm
   have hbit:∀j,(L|||1<<<i).testBit j=(L.testBit j||decide (j=i)):=by
    intro j
    rw[Nat.testBit_or,Nat.one_shiftLeft,Nat.testBit_two_pow]
    congr 1
    exact decide_eq_decide.2 ⟨fun h=>h.symm,fun h=>h.symm⟩
   rcases List.mem_cons.1 hm with rfl|hm
   ·have hni:i∉l:=(List.nodup_cons.1 hn).1
    have hsame:(l.filter fun j=> !L.testBit j)=l.filter fun j=> !(L|||1<<<i).testBit j:=by
     refine List.filter_congr (fun j hj=> ?_)
     have:j≠i:=fun e=>hni (e▸hj)
     rw[hbit,decide_eq_false this,Bool.or_false]
    rw[List.filter_cons,List.filter_cons,hbit i,hb,<-hsame]
    simp
   ·have:=ih (List.nodup_cons.1 hn).2 hm
    have hxi:x≠i:=fun e=>(List.nodup_cons.1 hn).1 (e▸hm)
    rw[List.filter_cons,List.filter_cons,hbit x,decide_eq_false hxi,Bool.or_false]
    split
    ·rw[List.length_cons,List.length_cons,this]
    ·exact this
 exact key _ List.nodup_range (List.mem_range.2 hi)
def early (ms:List Nat):Bool:=(List.range ms.length).all fun i=>decide ((ms.getD i 0)<2^i)
theorem qBp {L:Nat} (he:early ms=true) (hr:zA1 L ms 0=[]):∀i,i<ms.length->L.testBit i=true:=by
 intro i
 induction i using Nat.strongRecOn with
 |_ i ih=>
  intro hi
  cases hb:L.testBit i with
  |true=>rfl
  |false=>
   have hm:=List.getElem?_eq_getElem hi
   have h1:ms[i]<2^i:=by
    have:=List.all_eq_true.1 he i (List.mem_range.2 hi)
    rw[List.getD_eq_getElem?_getD,hm]at this
    simpa using this
   have:i∈zA1 L ms 0:=(zDd L ms 0 i).2 ⟨Nat.zero_le _,hb,ms[i],by rw[Nat.sub_zero];exact hm,zH6.2 (fun k hk=>by
    have hki:k<i:=by
     rcases Nat.lt_or_ge k i with h|h
     ·exact h
     ·have h2:ms[i]<2^k:=Nat.lt_of_lt_of_le h1 (Nat.pow_le_pow_right (by omega) h)
      rw[Nat.testBit_lt_two_pow h2]at hk
      cases hk
    exact ih k hki (by omega))⟩
   rw[hr]at this
   cases this
theorem qAo (I:Nat->Act->World->Prop) (he:early ms=true)
  (hstep:∀L a w i m,I L a w->ms[i]? =some m->L.testBit i=false->(∀k,m.testBit k=true->L.testBit k=true)->∃o,ops[i]? =some o/\Region.wanted o (yielded ops a.tmps)=true/\Oper.wp P o a w (fun a' w'=>(w'=w\/D.contains i=true\/S w')/\I (L|||1<<<i) a' w') Q)
  (hend:∀L a w,I L a w->(∀i,i<ms.length->L.testBit i=true)->Q .normal a w):
  ∀(f L:Nat) (a:Act) (w:World),I L a w->zPp ms.length L=f->At_ P md ops Q D S ms f L a w:=by
 intro f
 induction f with
 |zero=>
  intro L a w hI hf
  have hd:∀i,i<ms.length->L.testBit i=true:=by
   intro i hi
   cases hb:L.testBit i with
   |true=>rfl
   |false=>have:=zQ9 hi hb;omega
  refine qA5 ?_ (hend L a w hI hd)
  refine List.eq_nil_iff_forall_not_mem.2 (fun j hj=> ?_)
  obtain⟨_,hb,m,hm,_⟩:=(zDd L ms 0 j).1 hj
  have hjl:j<ms.length:=by
   rcases Nat.lt_or_ge j ms.length with h|h
   ·exact h
   ·rw[List.getElem?_eq_none (by simpa using h)]at hm;cases hm
  rw[hd j hjl]at hb
  cases hb
 |succ f ih=>
  intro L a w hI hf
  refine⟨fun F listed c=>⟨fun h0=> ?_,fun j hj=> ?_⟩⟩
  ·refine hend L a w hI (qBp he ?_)
   refine List.eq_nil_iff_forall_not_mem.2 (fun j hj=> ?_)
   have:=(c.ready F j).2 hj
   rw[h0]at this
   cases this
  ·obtain⟨_,hb,m,hm,hin⟩:=(zDd L ms 0 j).1 ((c.ready F j).1 hj)
   rw[Nat.sub_zero]at hm
   have hjl:j<ms.length:=by
    rcases Nat.lt_or_ge j ms.length with h|h
    ·exact h
    ·rw[List.getElem?_eq_none h]at hm;cases hm
   obtain⟨o,ho,hw,hop⟩:=hstep L a w j m hI hm hb (zH6.1 hin)
   unfold wpOp
   simp only[ho,hw,if_true]
   left
   refine Oper.wp_mono (fun a' w' h=> ?_) hop
   exact⟨h.1,(ih (L|||1<<<j) a' w' h.2 (by have:=zQ9 hjl hb;omega)).out F _ (c.set hj)⟩
end
end Kit
section
section
open Go.RowKit Kit
section
variable {P:Program} {ops:Array Oper} {md:Region.Mode} {w w':World} {S:World->Prop} {D ms:List Nat} {Q:Exit->Act->World->Prop} {a:Act} {i:Nat} {n L:Nat}
structure zVy (P:Program) (md:Region.Mode) (ops:Array Oper) (Q:Exit->Act->World->Prop) (D:List Nat) (S:World->Prop) (ms:List Nat) (n L:Nat) (a:Act) (w:World) (i:Nat):Prop where
 out:∀(_:Facts md ops ms) (listed:Array Bool) (_:Cor md ops listed L) (_:i∈Region.ready md ops listed),wpOp P ops Q i (fun a' w'=>(w'=w\/D.contains i=true\/S w')/\zC5 P md ops Q D S (n-1) (listed.setIfInBounds i true) a' w') a w
theorem yv (d:Tmp) (v:Value) (hv:(execOp a.eval (opA ops i)).run P w= .ok (.value v) w') (hS:w'=w\/D.contains i=true\/S w') (h:At_ P md ops Q D S ms (n-1) (L|||1<<<i) (a.put (some d) v) w') (hk:okA ops i (some d) a.tmps=true:=by kernel_rfl):zVy P md ops Q D S ms n L a w i:=by
 obtain⟨hi,hd,hw⟩:=zB0 hk
 refine⟨fun F listed c hj=> ?_⟩
 unfold wpOp
 simp only[hi,hw,if_true]
 left
 unfold Oper.wp
 rw[hv]
 rw[<-hd]at h
 exact⟨hS,h.out F _ (c.set hj)⟩
theorem yc (d:Tmp) (g:FuncId) (args:Array Value) {R:Ending->World->Prop} (hc:Calls P g args w R) (h:∀e w',R e w'->∃v,e= .returned v/\(w'=w\/D.contains i=true\/S w')/\At_ P md ops Q D S ms (n-1) (L|||1<<<i) (a.put (some d) v) w')
  (hk:okA ops i (some d) a.tmps=true:=by kernel_rfl) (hv:(execOp a.eval (opA ops i)).run P w= .ok (.enter g args) w:=by kernel_rfl):zVy P md ops Q D S ms n L a w i:=by
 obtain⟨hi,hd,hw⟩:=zB0 hk
 refine⟨fun F listed c hj=> ?_⟩
 unfold wpOp
 simp only[hi,hw,if_true]
 left
 unfold Oper.wp
 rw[hv,Oper.upon_enter]
 refine hc.mono fun e w'' hh=> ?_
 obtain⟨v,rfl,hS,hA⟩:=h e w'' hh
 rw[<-hd]at hA
 exact⟨hS,hA.out F _ (c.set hj)⟩
def qEo (L:Nat) (ms:List Nat) (i j n:Nat):Bool:=(match zA1 L ms 0 with|[x,y]=>Nat.beq x i&&Nat.beq y j|_=>false)&&Nat.blt 0 n
theorem y2 (i j:Nat) (hi:zVy P md ops Q D S ms n L a w i) (hj:zVy P md ops Q D S ms n L a w j) (hk:qEo L ms i j n=true:=by kernel_rfl):At_ P md ops Q D S ms n L a w:=by
 unfold qEo at hk
 rw[Bool.and_eq_true]at hk
 have hn:n=n-1+1:=by have:0<n:=Nat.le_of_ble_eq_true hk.2;omega
 have hr:zA1 L ms 0=[i,j]:=by
  have h1:=hk.1
  split at h1
  ·rename_i x y e
   rw[Bool.and_eq_true]at h1
   rw[e,Nat.eq_of_beq_eq_true h1.1,Nat.eq_of_beq_eq_true h1.2]
  ·cases h1
 refine⟨fun F listed c=> ?_⟩
 rw[hn]
 refine⟨fun h0=> ?_,fun k hk2=> ?_⟩
 ·have h1:i∈Region.ready md ops listed:=(c.ready F i).2 (by rw[hr];simp)
  rw[h0]at h1
  cases h1
 ·have h1:=(c.ready F k).1 hk2
  rw[hr]at h1
  rcases List.mem_cons.1 h1 with rfl|h1
  ·exact hi.out F listed c hk2
  ·obtain rfl:=List.mem_singleton.1 h1
   exact hj.out F listed c hk2
end
end
end
namespace Top
open Go.ChangeShapes Go.WideShapes Go.ChangeAt Go.RowKit
theorem zR {P:Program} {w0:World} {L:List (String×DataW Unit)} (args:Array Value) (hf:w0.layFits P (L.filter fun x=>x.2.handleName?.isNone) []=true)
  (hi:w0.layIfaces P (L.filter fun x=>x.2.handleName?.isNone) (w0.layVars P (L.filter fun x=>x.2.handleName?.isNone))=true)
  (hh:(L.filter fun x=>x.2.handleName?.isSome).all (handleAtB P (w0.layVars P (L.filter fun x=>x.2.handleName?.isNone)))=true):
  laidMetH P L ((w0.layVars P (L.filter fun x=>x.2.handleName?.isNone)).forCall (fun _ _=>0) ⟨#[],args,[]⟩).memory:=by
 have h:laidMetH P L (w0.layVars P (L.filter fun x=>x.2.handleName?.isNone)):=by
  refine laidMetH_of_parts ?_ hh
  revert hf hi
  generalize (L.filter fun x=>x.2.handleName?.isNone)=l
  intro hf hi
  have e1:(l.filter fun x=>(l.map (·.1)).contains x.1)=l:=List.filter_eq_self.2 fun x hx=>List.contains_iff_mem.2 (List.mem_map.2 ⟨x,hx,rfl⟩)
  have e2:(l.filter fun x=> !(l.map (·.1)).contains x.1)=[]:=List.filter_eq_nil_iff.2 fun x hx=>by rw[List.contains_iff_mem.2 (List.mem_map.2 ⟨x,hx,rfl⟩)];simp
  exact laidMet_layVars (w0:=w0) (l.map (·.1)) [] (by rw[e1]) (by rw[e1];exact hf) (by rw[e1];exact hi) (by rw[e2];exact LaidIn.none)
 exact h.of_heap (by simp[World.memory,World.forCall,Input.heap])
variable {H:Type} {enc:TypeId×Value->H}
theorem lift {a:Assume} {C:Checked} {os:Os} {f:FuncId} {fn:Func} {s:ChangeSpec} {apart fresh handsOn again:Bool} {X:World->Array Value->Prop}
  (hX:∀(w w':World) (args:Array Value),w.heap=w'.heap->X w args->X w' args)
  (own:ownKnob C.prog.godebug=none) (started:os.Started) (noInit:C.prog.inits.idxOf? f=none) (hfn:C.prog.funcs[f]? =some fn)
  (wit:∃(w:World) (tape:Tape) (i:Input),w.os=os/\(w.forCall tape i).Shaped C.prog/\i.vars=[]/\Input.okWide C.prog (w.forCall tape i) .any w.heap.size f i/\
   ((s.pre enc C.prog fn [] apart (w.forCall tape i).memory i.args/\X (w.forCall tape i).memory i.args)/\sizedMet enc C.prog fn (OpenSpec.ofChange s) apart (w.forCall tape i).memory i.args)/\a.holds C.prog (lone (Frame.enter C.prog f i.args .normal) [] (w.forCall tape i)))
  (law:∀(W:World) (base:Nat) (args:Array Value) (ds gs:List (DataW H)) (before:List MemPlace),
   (∀(j:Nat) t v,fn.params[j]? =some t->args[j]? =some v->Value.okWide C.prog W .any base t v)->DataW.Whole enc C.prog fn.params.toList s.vars apart W args.toList ds gs before->
   W.ShapedOpen C.prog->Calls C.prog f args W fun e W'=>∃v,e= .returned v/\s.post enc C.prog fn apart fresh handsOn again W args v W'):
  ReturnsInHanded a C os f .any (fun w args=>(s.pre enc C.prog fn [] apart w args/\X w args)/\sizedMet enc C.prog fn (OpenSpec.ofChange s) apart w args) (s.post enc C.prog fn apart fresh handsOn again):=by
 refine returnsInHanded_of_calls own started noInit wit fun w tape i _ hsh _ hok hpre _=> ?_
 obtain⟨_,_,_,fn',hfn',_,_,_,_,hval⟩:=hok
 obtain rfl:=Option.some.inj (hfn'.symm.trans hfn)
 obtain⟨⟨⟨ds,gs,before,hw,_⟩,_⟩,_⟩:=hpre
 refine(law _ w.heap.size i.args ds gs before hval (DataW.Whole.of_heap (w':=w.forCall tape i) (by rfl) hw) hsh).mono ?_
 rintro e W' ⟨v,rfl,hp⟩
 exact ChangeSpec.post_blind hp
theorem qGh {a b:Bool} (h:a=true) (k:b=true):(a&&b)=true:=by rw[h,k];rfl
theorem own:ownKnob Tryz.prog.godebug=none:=by kernel_rfl
theorem laidOut:laidOutB Tryz.prog=true:=by kernel_rfl
theorem zP8 {W:World} (h:W.ShapedOpen Tryz.prog):∃m,W.cell? ⟨0,0,none⟩=some (.int .i64 m):=
 cell_of_shapedOpen_int h (of_decide_eq_true (by kernel_rfl)) (zero:= #[.int .i64 0]) (t:=3) (by kernel_rfl) rfl (by kernel_rfl) (by kernel_rfl) Tryz.underlying3
end Top
end Go.Proofs.YtppnakkaljbmbaaGreatDoor
