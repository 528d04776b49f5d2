/- Steps of a proof; no condition beyond what each states. -/
import Derived.Test.YtppnakkaljbmbaaGreatDoorZX00
import Derived.HandedShaped
import Derived.LaidMore
import Derived.Lay
import Derived.Shelf.Vars
import Derived.Stop.Joined
import Derived.Test.YtppnakkaljbmbaaGreatDoorRows
import Derived.Test.YtppnakkaljbmbaaGreatDoorZX11
set_option linter.unusedVariables false
set_option linter.unusedSimpArgs false
set_option maxRecDepth 100000
set_option maxHeartbeats 8000000
open Go.RowKit
open Go.Proofs.Tryz
open Go.Value renaming int->qV
open Go.IntKind renaming i64->qj
open Go.Ending renaming returned->qp
open Option renaming some->qw,none->qx
open Go renaming World->qy,Value->qz,TypeId->yA,Calls->yC
open Bool renaming true->yD
open Go.Proofs.Tryz renaming prog->yG
namespace Go.Proofs.YtppnakkaljbmbaaGreatDoor
namespace Top
open Go.ChangeShapes Go.WideShapes Go.ChangeAt
theorem zR {P:Program} {w0:qy} {L:List (String×DataW Unit)} (args:Array qz) (b:w0.layFits P (L.filter fun x=>x.2.handleName?.isNone) []=yD)
  (hi:w0.layIfaces P (L.filter fun x=>x.2.handleName?.isNone) (w0.layVars P (L.filter fun x=>x.2.handleName?.isNone))=yD)
  (e:(L.filter fun x=>x.2.handleName?.isSome).all (handleAtB P (w0.layVars P (L.filter fun x=>x.2.handleName?.isNone)))=yD):
  laidMetH P L ((w0.layVars P (L.filter fun x=>x.2.handleName?.isNone)).forCall (fun _ _=>0) ⟨#[],args,[]⟩).memory:=by
 have h:laidMetH P L (w0.layVars P (L.filter fun x=>x.2.handleName?.isNone)):=by
  refine laidMetH_of_parts ?_ e;revert b hi;generalize (L.filter fun x=>x.2.handleName?.isNone)=l;intro b hi;have a:(l.filter fun x=>(l.map (·.1)).contains x.1)=l:=List.filter_eq_self.2 fun x c=>List.contains_iff_mem.2 (qQf.2 ⟨x,c,rfl⟩);have d:(l.filter fun x=> !(l.map (·.1)).contains x.1)=[]:=List.filter_eq_nil_iff.2 fun x c=>by rw[List.contains_iff_mem.2 (qQf.2 ⟨x,c,rfl⟩)];simp
  exact laidMet_layVars (w0:=w0) (l.map (·.1)) [] (by rw[a]) (by rw[a];exact b) (by rw[a];exact hi) (by rw[d];exact LaidIn.none)
 exact h.of_heap (by simp[World.memory,World.forCall,Input.heap])
variable {H:Type} {enc:yA×qz->H}
theorem lift {a:Assume} {C:Checked} {os:Os} {f:FuncId} {fn:Func} {s:ChangeSpec} {d m k l:Bool} {X:qy->Array qz->Prop}
  (G:∀(w w':qy) (args:Array qz),w.heap=w'.heap->X w args->X w' args)
  (own:ownKnob C.prog.godebug=qx) (n:os.Started) (o:C.prog.inits.idxOf? f=qx) (q:C.prog.funcs[f]? =qw fn)
  (y:∃(w:qy) (c:Tape) (i:Input),w.os=os/\(w.forCall c i).Shaped C.prog/\i.vars=[]/\Input.okWide C.prog (w.forCall c i) .any w.heap.size f i/\
   ((s.pre enc C.prog fn [] d (w.forCall c i).memory i.args/\X (w.forCall c i).memory i.args)/\sizedMet enc C.prog fn (OpenSpec.ofChange s) d (w.forCall c i).memory i.args)/\a.holds C.prog (lone (Frame.enter C.prog f i.args .normal) [] (w.forCall c i)))
  (x:∀(W:qy) (base:Nat) (args:Array qz) (g h:List (DataW H)) (before:List MemPlace),
   (∀(j:Nat) t v,fn.params[j]? =qw t->args[j]? =qw v->Value.okWide C.prog W .any base t v)->DataW.Whole enc C.prog fn.params.toList s.vars d W args.toList g h before->
   W.ShapedOpen C.prog->yC C.prog f args W fun e W'=>∃v,e=qp v/\s.post enc C.prog fn d m k l W args v W'):
  ReturnsInHanded a C os f .any (fun w args=>(s.pre enc C.prog fn [] d w args/\X w args)/\sizedMet enc C.prog fn (OpenSpec.ofChange s) d w args) (s.post enc C.prog fn d m k l):=by
 refine returnsInHanded_of_calls own n o y fun w c i _ u _ r p _=> ?_;obtain⟨_,_,_,F,b,_,_,_,_,hval⟩:=r;obtain rfl:=qPv (b.symm.trans q);obtain⟨⟨⟨g,h,before,B,_⟩,_⟩,_⟩:=p;refine(x _ w.heap.size i.args g h before hval (DataW.Whole.of_heap (w':=w.forCall c i) zh B) u).mono ?_;rintro e W' ⟨v,rfl,z⟩;exact ChangeSpec.post_blind z
theorem qGh {a b:Bool} (h:a=yD) (k:b=yD):(a&&b)=yD:=by rw[h,k];rfl
theorem own:ownKnob prog.godebug=qx:=zf
theorem laidOut:laidOutB yG=yD:=zf
theorem zP8 {W:qy} (h:W.ShapedOpen yG):∃m,W.cell? ⟨0,0,qx⟩=qw (qV qj m):=
 cell_of_shapedOpen_int h (qTj zf) (zero:= #[qV qj 0]) (t:=3) zf rfl zf zf underlying3
end Top
end Go.Proofs.YtppnakkaljbmbaaGreatDoor
