/- Steps of a proof; no condition beyond what each states. -/
import Derived.Test.YtppnakkaljbmbaaGreatDoorZY00
import Derived.HandedShaped
import Derived.LaidMore
import Derived.Lay
import Derived.Shelf.Vars
import Derived.Stop.Joined
import Derived.Test.YtppnakkaljbmbaaGreatDoorRows
import Derived.Test.YtppnakkaljbmbaaGreatDoorZY02
set_option linter.unusedVariables false
set_option linter.unusedSimpArgs false
set_option maxRecDepth 100000
set_option maxHeartbeats 8000000
open List renaming length->kN
open Go.RowKit
open Go.Proofs.Tryz
open Go.Value renaming int->qX
open Go.IntKind renaming i64->qm
open Go.Ending renaming returned->qx
open Option renaming some->yA,none->yB
open Go renaming World->yC,Value->yD,TypeId->yE,Calls->yG
open Bool renaming true->yH,false->yI
open Decidable renaming decide->yJ
open Go.Proofs.Tryz renaming prog->yK
open List renaming range->yO
namespace Go.Proofs.YtppnakkaljbmbaaGreatDoor
namespace Kit
section
variable {P:Program} {ops:Array Oper} {Q:Exit->Act->yC->Prop} {md:Region.Mode} {D:List Nat} {S:yC->Prop} {ms:List Nat}
def zPp (n L:Nat):Nat:=kN ((yO n).filter fun i=> !L.testBit i)
theorem zQ9 {n L i:Nat} (hi:i<n) (m:L.testBit i=yI):zPp n L=zPp n (L|||1<<<i)+1:=by
 unfold zPp;have c:∀(l:List Nat),l.Nodup->i∈l->kN (l.filter fun j=> !L.testBit j)=kN (l.filter fun j=> !(L|||1<<<i).testBit j)+1:=by
  intro l
  induction l with
  |nil=>intro _ h;cases h
  |cons x l ih=>
   intro k g;have a:∀j,(L|||1<<<i).testBit j=(L.testBit j||yJ (j=i)):=by
    intro j;rw[qR6,qTc,qTd];congr 1;exact decide_eq_decide.2 ⟨fun h=>h.symm,fun h=>h.symm⟩
   rcases qP6.1 g with rfl|g
   .have f:i∉l:=(qSy.1 k).1;have b:(l.filter fun j=> !L.testBit j)=l.filter fun j=> !(L|||1<<<i).testBit j:=by
     refine List.filter_congr (fun j o=> ?_);have:j≠i:=fun e=>f (e▸o);rw[a,qP1 this,Bool.or_false]
    rw[qTk,qTk,a i,m,<-b];simp
   .have:=ih (qSy.1 k).2 g;have d:x≠i:=fun e=>(qSy.1 k).1 (e▸g);rw[qTk,qTk,a x,qP1 d,Bool.or_false];split
    .rw[qP4,qP4,this]
    .exact this
 exact c _ qTx (qQn.2 hi)
def early (ms:List Nat):Bool:=(yO (kN ms)).all fun i=>decide ((ms.getD i 0)<2^i)
theorem qBp {L:Nat} (f:early ms=yH) (g:zA1 L ms 0=[]):∀i,i<kN ms->L.testBit i=yH:=by
 intro i
 induction i using Nat.strongRecOn with
 |_ i ih=>
  intro hi;cases hb:L.testBit i with
  |true=>rfl
  |false=>
   have c:=qPu hi;have d:ms[i]<2^i:=by
    have:=List.all_eq_true.1 f i (qQn.2 hi);rw[qPz,c]at this;simpa using this
   have:i∈zA1 L ms 0:=(zDd L ms 0 i).2 ⟨qQl _,hb,ms[i],by rw[Nat.sub_zero];exact c,zH6.2 (fun k b=>by
    have a:k<i:=by
     rcases qP8 k i with h|h
     .exact h
     .have e:ms[i]<2^k:=qQx d (qR9 za h);rw[Nat.testBit_lt_two_pow e]at b;cases b
    exact ih k a za)⟩
   rw[g]at this;cases this
theorem qAo (I:Nat->Act->yC->Prop) (t:early ms=yH)
  (r:∀L a w i m,I L a w->ms[i]? =yA m->L.testBit i=yI->(∀k,m.testBit k=yH->L.testBit k=yH)->∃o,ops[i]? =yA o/\Region.wanted o (yielded ops a.tmps)=yH/\Oper.wp P o a w (fun a' w'=>(w'=w\/D.contains i=yH\/S w')/\I (L|||1<<<i) a' w') Q)
  (q:∀L a w,I L a w->(∀i,i<kN ms->L.testBit i=yH)->Q .normal a w):
  ∀(f L:Nat) (a:Act) (w:yC),I L a w->zPp (kN ms) L=f->At_ P md ops Q D S ms f L a w:=by
 intro f
 induction f with
 |zero=>
  intro L a w p u;have hd:∀i,i<kN ms->L.testBit i=yH:=by
   intro i hi;cases g:L.testBit i with
   |true=>rfl
   |false=>have:=zQ9 hi g;omega
  refine qA5 ?_ (q L a w p hd);refine qUl.2 (fun j n=> ?_);obtain⟨_,g,m,l,_⟩:=(zDd L ms 0 j).1 n;have b:j<kN ms:=by
   rcases qP8 j (kN ms) with h|h
   .exact h
   .rw[List.getElem?_eq_none (by simpa using h)]at l;cases l
  rw[hd j b]at g;cases g
 |succ f ih=>
  intro L a w p u;refine⟨fun F z c=>⟨fun s=> ?_,fun j n=> ?_⟩⟩
  .refine q L a w p (qBp t ?_);refine qUl.2 (fun j n=> ?_);have:=(c.ready F j).2 n;rw[s]at this;cases this
  .obtain⟨_,g,m,l,d⟩:=(zDd L ms 0 j).1 ((c.ready F j).1 n);rw[Nat.sub_zero]at l;have b:j<kN ms:=by
    rcases qP8 j (kN ms) with h|h
    .exact h
    .rw[qQq h]at l;cases l
   obtain⟨o,x,y,e⟩:=r L a w j m p l g (zH6.1 d);unfold wpOp;simp only[x,y,qRx];left;refine Oper.wp_mono (fun a' w' h=> ?_) e;exact⟨h.1,(ih (L|||1<<<j) a' w' h.2 (by have:=zQ9 b g;omega)).out F _ (c.set n)⟩
end
end Kit
namespace Top
open Go.ChangeShapes Go.WideShapes Go.ChangeAt
theorem zR {P:Program} {w0:yC} {L:List (String×DataW Unit)} (args:Array yD) (b:w0.layFits P (L.filter fun x=>x.2.handleName?.isNone) []=yH)
  (hi:w0.layIfaces P (L.filter fun x=>x.2.handleName?.isNone) (w0.layVars P (L.filter fun x=>x.2.handleName?.isNone))=yH)
  (e:(L.filter fun x=>x.2.handleName?.isSome).all (handleAtB P (w0.layVars P (L.filter fun x=>x.2.handleName?.isNone)))=yH):
  laidMetH P L ((w0.layVars P (L.filter fun x=>x.2.handleName?.isNone)).forCall (fun _ _=>0) ⟨#[],args,[]⟩).memory:=by
 have h:laidMetH P L (w0.layVars P (L.filter fun x=>x.2.handleName?.isNone)):=by
  refine laidMetH_of_parts ?_ e;revert b hi;generalize (L.filter fun x=>x.2.handleName?.isNone)=l;intro b hi;have a:(l.filter fun x=>(l.map (·.1)).contains x.1)=l:=List.filter_eq_self.2 fun x c=>List.contains_iff_mem.2 (qQg.2 ⟨x,c,rfl⟩);have d:(l.filter fun x=> !(l.map (·.1)).contains x.1)=[]:=List.filter_eq_nil_iff.2 fun x c=>by rw[List.contains_iff_mem.2 (qQg.2 ⟨x,c,rfl⟩)];simp
  exact laidMet_layVars (w0:=w0) (l.map (·.1)) [] (by rw[a]) (by rw[a];exact b) (by rw[a];exact hi) (by rw[d];exact LaidIn.none)
 exact h.of_heap (by simp[World.memory,World.forCall,Input.heap])
variable {H:Type} {enc:yE×yD->H}
theorem lift {a:Assume} {C:Checked} {os:Os} {f:FuncId} {fn:Func} {s:ChangeSpec} {d m k l:Bool} {X:yC->Array yD->Prop}
  (G:∀(w w':yC) (args:Array yD),w.heap=w'.heap->X w args->X w' args)
  (own:ownKnob C.prog.godebug=yB) (n:os.Started) (o:C.prog.inits.idxOf? f=yB) (q:C.prog.funcs[f]? =yA fn)
  (y:∃(w:yC) (c:Tape) (i:Input),w.os=os/\(w.forCall c i).Shaped C.prog/\i.vars=[]/\Input.okWide C.prog (w.forCall c i) .any w.heap.size f i/\
   ((s.pre enc C.prog fn [] d (w.forCall c i).memory i.args/\X (w.forCall c i).memory i.args)/\sizedMet enc C.prog fn (OpenSpec.ofChange s) d (w.forCall c i).memory i.args)/\a.holds C.prog (lone (Frame.enter C.prog f i.args .normal) [] (w.forCall c i)))
  (x:∀(W:yC) (base:Nat) (args:Array yD) (g h:List (DataW H)) (before:List MemPlace),
   (∀(j:Nat) t v,fn.params[j]? =yA t->args[j]? =yA v->Value.okWide C.prog W .any base t v)->DataW.Whole enc C.prog fn.params.toList s.vars d W args.toList g h before->
   W.ShapedOpen C.prog->yG C.prog f args W fun e W'=>∃v,e=qx v/\s.post enc C.prog fn d m k l W args v W'):
  ReturnsInHanded a C os f .any (fun w args=>(s.pre enc C.prog fn [] d w args/\X w args)/\sizedMet enc C.prog fn (OpenSpec.ofChange s) d w args) (s.post enc C.prog fn d m k l):=by
 refine returnsInHanded_of_calls own n o y fun w c i _ u _ r p _=> ?_;obtain⟨_,_,_,F,b,_,_,_,_,hval⟩:=r;obtain rfl:=qPv (b.symm.trans q);obtain⟨⟨⟨g,h,before,B,_⟩,_⟩,_⟩:=p;refine(x _ w.heap.size i.args g h before hval (DataW.Whole.of_heap (w':=w.forCall c i) zh B) u).mono ?_;rintro e W' ⟨v,rfl,z⟩;exact ChangeSpec.post_blind z
theorem qGh {a b:Bool} (h:a=yH) (k:b=yH):(a&&b)=yH:=by rw[h,k];rfl
theorem own:ownKnob prog.godebug=yB:=zf
theorem laidOut:laidOutB yK=yH:=zf
theorem zP8 {W:yC} (h:W.ShapedOpen yK):∃m,W.cell? ⟨0,0,yB⟩=yA (qX qm m):=
 cell_of_shapedOpen_int h (qTm zf) (zero:= #[qX qm 0]) (t:=3) zf rfl zf zf underlying3
end Top
end Go.Proofs.YtppnakkaljbmbaaGreatDoor
