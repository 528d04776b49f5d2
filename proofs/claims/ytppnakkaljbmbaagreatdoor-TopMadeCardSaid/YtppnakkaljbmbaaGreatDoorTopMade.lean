/- The law TopMade returns true: a block is made of what the layers make, one behind the other. For every input: no condition. A tied card: eight package-level variables of the library start as the text of the program lays them. -/
import Derived.Test.YtppnakkaljbmbaaGreatDoorCards
import Derived.Test.YtppnakkaljbmbaaGreatDoorTie
import Derived.Test.YtppnakkaljbmbaaGreatDoorZU45
set_option linter.unusedVariables false
set_option linter.unusedSimpArgs false
set_option maxRecDepth 100000
set_option maxHeartbeats 8000000
section
namespace Go.Proofs.YtppnakkaljbmbaaGreatDoor.topMade
open Top Al
open Go.ChangeShapes Go.WideShapes Go.ChangeAt Go.RowKit
open Go.ChangeMaps (open_string shut_string)
theorem walk (a0:ByteArray) (a1:Option Addr) (len1 cap1:Nat) (z1:Nat->Int×Int) (w:World) (hm:Sh.HM w) (w0:a0.size<=maxLen) (w1:Kit.zEq .i64 w a1 len1 cap1 z1):
  Calls Tryz.prog 4 #[.string a0,.slice a1 len1 cap1] w fun e w'=>e= .returned (.bool true)/\Below w.heap.size w w':=by
 exact qAg a0 a1 len1 cap1 z1 w w0 w1 hm
theorem lifted (os:Os) (started:os.Started) (H:Type) (enc:TypeId×Value->H):
  ReturnsInHanded {} Tryz.checked os 4 .any (fun w args=>(Rows.topMadeSpec.pre enc Tryz.prog Tryz.f4 [] false w args/\laidMetH Tryz.prog Rows.topMadeRow.laid w)/\sizedMet enc Tryz.prog Tryz.f4 (OpenSpec.ofChange Rows.topMadeSpec) false w args)
   (Rows.topMadeSpec.post enc Tryz.prog Tryz.f4 false true false false):=by
 refine lift (C:=Tryz.checked) (X:=fun w _=>laidMetH Tryz.prog Rows.topMadeRow.laid w) (fun _ _ _ hh h=>h.of_heap hh) own started (by kernel_rfl) Tryz.func4
  (ChangeSpec.witness_shaped (enc:=enc) (C:=Tryz.checked) (os:=os) (X:=fun w _=>laidMetH Tryz.prog Rows.topMadeRow.laid w) false (World.layVars Tryz.prog ((World.holding Tryz.prog os ⟨#[],#[],[]⟩).setCell ⟨6,0,none⟩ (.iface 394 (.agg #[.pointer (some ⟨9,124,none⟩)]))) (Rows.topMadeRow.laid.filter fun x=>x.2.handleName?.isNone)) #[.string ByteArray.empty,.slice none 0 0] 8 (World.layVars_os _ _ _)
   (World.shaped_of_ZipB (by kernel_rfl) (by kernel_rfl)) (by kernel_rfl) (by kernel_rfl) (by kernel_rfl) (zR _ (by kernel_rfl) (by kernel_rfl) (by kernel_rfl))) ?_
 intro W base args ds gs before hval0 hW hsh
 have hval:∀(j:Nat) t v,Tryz.f4.params[j]? =some t->args[j]? =some v->Value.okWide Tryz.prog W .any base t v:=hval0
 have hW':=hW
 obtain⟨p,q,hA0,hV,rfl,hfz,hnd⟩:=hW
 have hA:DataW.TrodAll enc Tryz.prog W 0 (fun _=>true) true Tryz.f4.params.toList args.toList ds p:=hA0
 rw[Tryz.params4]at hA hval
 obtain⟨v0,vs0,d0,ds0,p0,q0,hargs,rfl,rfl,h0,r0⟩:=trodAll_cons hA
 obtain⟨v1,vs1,d1,ds1,p1,q1,rfl,rfl,rfl,h1,r1⟩:=trodAll_cons r0
 obtain⟨rfl,rfl,rfl⟩:=trodAll_nil r1
 obtain rfl:args= #[v0,v1]:=by cases args;simp_all
 obtain⟨rfl,rfl⟩:=trodVars_none hV
 obtain⟨a0,rfl,rfl,rfl,w0⟩:=open_string Tryz.underlying9 (hval 0 9 v0 rfl rfl) h0
 obtain⟨a1,len1,cap1,rfl⟩:=okWide_slice Tryz.underlying22 (hval 1 22 v1 rfl rfl)
 have k1:=h1
 have lt1:∀x∈p1,x.block<W.heap.size:=by obtain⟨m,hm⟩:=k1;exact DataW.trod_lt m _ _ _ hm
 obtain⟨z1,w1⟩:∃g,Kit.zEq .i64 W a1 len1 cap1 g:=Kit.zUw Tryz.underlying22 Tryz.underlying88 Tryz.underlying3 (by kernel_rfl) (by kernel_rfl) h1
 clear hA0 hval0
 refine(walk a0 a1 len1 cap1 z1 W (zP8 hsh) w0 w1).mono fun e W' ⟨he,bel⟩=> ?_
 subst he
 exact⟨_,rfl,_,_,_,[],_,[],hW',trodAll_mk1 (shut_bool Tryz.underlying4 _),(trodAll_cons_mk (shut_string Tryz.underlying9 w0) (trodAll_cons_mk (Below.trod laidOut (by kernel_rfl) (of_decide_eq_true (by kernel_rfl)) k1 bel lt1) trodAll_mk0)),rfl,bel.frame _,fun h=>by cases h⟩
theorem named:Tryz.prog.funcNamed "pressmark/pressmarktop.TopMade"=some 4:=by kernel_rfl
theorem closed:joinedFacts Tryz.prog 4 Tryz.f4 Rows.topMadeSpec Rows.topMadeRow=true:=by
 unfold joinedFacts
 iterate 31 refine qGh ?_ ?_
 all_goals as_aux_lemma=>kernel_rfl
theorem over:Rows.TopMadeSaid:=
 OpenClaim.holds_of_wide 4 Tryz.f4 rfl rfl rfl rfl rfl rfl rfl ⟨rfl,rfl,rfl,rfl,rfl⟩ rfl rfl rfl rfl rfl named Tryz.func4 closed
  (of_decide_eq_true (by kernel_rfl)) (by unfold Func.isWrapper;first|(rw[if_pos (by decide+kernel)];kernel_rfl)|(rw[if_neg (by decide+kernel)];exact⟨rfl,rfl⟩))
  (fun os started H enc _=>lifted os started H enc)
theorem proved:Rows.TopMadeCardSaid:=
 Claim7.holds_tied_plain_at .later [] [.data,.data,.data,.data,.handle,.sentinel,.sentinel,.pinned] true (true, "b0efe09c56692b3ec3d6f81772cb88f1161014e308401e8e0f2f0e5b5b5f5e4b") true
  over (fun _ h=>by cases h) (by as_aux_lemma=>kernel_rfl) (fun _ h=>by cases h) topMade_row_tie rfl ⟨rfl,rfl⟩ (by as_aux_lemma=>kernel_rfl) rfl
  (fun f fn hf hfn=>by
   obtain rfl:f=4:=Option.some.inj (named.symm.trans hf)|>.symm
   obtain rfl:fn=Tryz.f4:=(Option.some.inj (Tryz.func4.symm.trans hfn)).symm
   exact⟨by as_aux_lemma=>kernel_rfl,fun j t ht=>by
    rw[Tryz.params4]at ht
    have hm:t∈[9,22]:=by simpa using Array.mem_of_getElem? ht
    have hall:([9,22].all fun u=> !Tryz.prog.wantsStandIn u)=true:=by kernel_rfl
    exact(show Tryz.prog.wantsStandIn t=false by simpa using List.all_eq_true.1 hall t hm)⟩)
  (by as_aux_lemma=>kernel_rfl)
#print axioms proved
end Go.Proofs.YtppnakkaljbmbaaGreatDoor.topMade
end
