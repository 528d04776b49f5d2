/- The law TopWorth returns true: two readers that ask for the same are told the same, whatever was asked ahead; the second one decodes nothing if there is room for all. For every input: no condition. A tied card. -/
import Derived.Test.YtppnakkaljbmbaaGreatDoorCards
import Derived.Test.YtppnakkaljbmbaaGreatDoorTie
import Derived.Test.YtppnakkaljbmbaaGreatDoorZX13
import Derived.Test.YtppnakkaljbmbaaGreatDoorZX35
set_option linter.unusedVariables false
set_option linter.unusedSimpArgs false
set_option maxRecDepth 100000
set_option maxHeartbeats 8000000
section
namespace Go.Proofs.YtppnakkaljbmbaaGreatDoor.topWorth
open Top Al To
open Go.ChangeShapes Go.WideShapes Go.ChangeAt Go.RowKit
open Go.ChangeMaps (open_string shut_string)
theorem walk (a0:ByteArray) (a1:Option Addr) (len1 cap1:Nat) (z1:Nat->Int×Int) (a2:Int) (a3:Option Addr) (len3 cap3:Nat) (z3:Nat->Int×Int) (w:World) (hm:Sh.HM w) (w0:a0.size<=maxLen) (w1:Kit.zEq .i64 w a1 len1 cap1 z1) (w2:(Lit.int .i64 a2).wf=true) (w3:Kit.zEq .i64 w a3 len3 cap3 z3):
  Calls Tryz.prog 6 #[.string a0,.slice a1 len1 cap1,.int .i64 a2,.slice a3 len3 cap3] w fun e w'=>e= .returned (.bool true)/\Below w.heap.size w w':=by
 exact qMg a0 a1 len1 cap1 z1 a2 a3 len3 cap3 z3 w w0 w1 (bounds_i64 w2).1 (bounds_i64 w2).2 w3 hm
theorem lifted (os:Os) (started:os.Started) (H:Type) (enc:TypeId×Value->H):
  ReturnsInHanded {} Tryz.checked os 6 .any (fun w args=>(Rows.topWorthSpec.pre enc Tryz.prog Tryz.f6 [] false w args/\laidMetH Tryz.prog Rows.topWorthRow.laid w)/\sizedMet enc Tryz.prog Tryz.f6 (OpenSpec.ofChange Rows.topWorthSpec) false w args)
   (Rows.topWorthSpec.post enc Tryz.prog Tryz.f6 false true false false):=by
 refine lift (C:=Tryz.checked) (X:=fun w _=>laidMetH Tryz.prog Rows.topWorthRow.laid w) (fun _ _ _ hh h=>h.of_heap hh) own started (by kernel_rfl) Tryz.func6
  (ChangeSpec.witness_shaped (enc:=enc) (C:=Tryz.checked) (os:=os) (X:=fun w _=>laidMetH Tryz.prog Rows.topWorthRow.laid w) false (World.layVars Tryz.prog ((World.holding Tryz.prog os ⟨#[],#[],[]⟩).setCell ⟨6,0,none⟩ (.iface 394 (.agg #[.pointer (some ⟨9,124,none⟩)]))) (Rows.topWorthRow.laid.filter fun x=>x.2.handleName?.isNone)) #[.string ByteArray.empty,.slice none 0 0,.int .i64 0,.slice none 0 0] 8 (World.layVars_os _ _ _)
   (World.shaped_of_ZipB (by kernel_rfl) (by kernel_rfl)) (by kernel_rfl) (by kernel_rfl) (by kernel_rfl) (zR _ (by kernel_rfl) (by kernel_rfl) (by kernel_rfl))) ?_
 intro W base args ds gs before hval0 hW hsh;have hval:∀(j:Nat) t v,Tryz.f6.params[j]? =some t->args[j]? =some v->Value.okWide Tryz.prog W .any base t v:=hval0;have hW':=hW;obtain⟨p,q,hA0,hV,rfl,hfz,hnd⟩:=hW;have hA:DataW.TrodAll enc Tryz.prog W 0 (fun _=>true) true Tryz.f6.params.toList args.toList ds p:=hA0;rw[Tryz.params6]at hA hval;obtain⟨v0,vs0,d0,ds0,p0,q0,hargs,rfl,rfl,h0,r0⟩:=trodAll_cons hA;obtain⟨v1,vs1,d1,ds1,p1,q1,rfl,rfl,rfl,h1,r1⟩:=trodAll_cons r0;obtain⟨v2,vs2,d2,ds2,p2,q2,rfl,rfl,rfl,h2,r2⟩:=trodAll_cons r1;obtain⟨v3,vs3,d3,ds3,p3,q3,rfl,rfl,rfl,h3,r3⟩:=trodAll_cons r2;obtain⟨rfl,rfl,rfl⟩:=trodAll_nil r3;obtain rfl:args= #[v0,v1,v2,v3]:=by cases args;simp_all
 obtain⟨rfl,rfl⟩:=trodVars_none hV;obtain⟨a0,rfl,rfl,rfl,w0⟩:=open_string Tryz.underlying9 (hval 0 9 v0 rfl rfl) h0;obtain⟨a1,len1,cap1,rfl⟩:=okWide_slice Tryz.underlying22 (hval 1 22 v1 rfl rfl);have k1:=h1;have lt1:∀x∈p1,x.block<W.heap.size:=by obtain⟨m,hm⟩:=k1;exact DataW.trod_lt m _ _ _ hm
 obtain⟨z1,w1⟩:∃g,Kit.zEq .i64 W a1 len1 cap1 g:=Kit.zUw Tryz.underlying22 Tryz.underlying88 Tryz.underlying3 (by kernel_rfl) (by kernel_rfl) h1;obtain⟨a2,rfl,rfl,rfl,w2⟩:=open_int Tryz.underlying3 (hval 2 3 v2 rfl rfl) h2;obtain⟨a3,len3,cap3,rfl⟩:=okWide_slice Tryz.underlying22 (hval 3 22 v3 rfl rfl);have k3:=h3;have lt3:∀x∈p3,x.block<W.heap.size:=by obtain⟨m,hm⟩:=k3;exact DataW.trod_lt m _ _ _ hm
 obtain⟨z3,w3⟩:∃g,Kit.zEq .i64 W a3 len3 cap3 g:=Kit.zUw Tryz.underlying22 Tryz.underlying88 Tryz.underlying3 (by kernel_rfl) (by kernel_rfl) h3;clear hA0 hval0;refine(walk a0 a1 len1 cap1 z1 a2 a3 len3 cap3 z3 W (zP8 hsh) w0 w1 w2 w3).mono fun e W' ⟨he,bel⟩=> ?_;subst he;exact⟨_,rfl,_,_,_,[],_,[],hW',trodAll_mk1 (shut_bool Tryz.underlying4 _),(trodAll_cons_mk (shut_string Tryz.underlying9 w0) (trodAll_cons_mk (Below.trod laidOut (by kernel_rfl) (qTj (by kernel_rfl)) k1 bel lt1) (trodAll_cons_mk (shut_int Tryz.underlying3 w2) (trodAll_cons_mk (Below.trod laidOut (by kernel_rfl) (qTj (by kernel_rfl)) k3 bel lt3) trodAll_mk0)))),rfl,bel.frame _,fun h=>by cases h⟩
theorem named:Tryz.prog.funcNamed "pressmark/pressmarktop.TopWorth"=some 6:=by kernel_rfl
theorem closed:joinedFacts Tryz.prog 6 Tryz.f6 Rows.topWorthSpec Rows.topWorthRow=true:=by
 unfold joinedFacts
 iterate 31 refine qGh ?_ ?_
 all_goals as_aux_lemma=>kernel_rfl
theorem over:Rows.TopWorthSaid:=
 OpenClaim.holds_of_wide 6 Tryz.f6 rfl rfl rfl rfl rfl rfl rfl ⟨rfl,rfl,rfl,rfl,rfl⟩ rfl rfl rfl rfl rfl named Tryz.func6 closed
  (qTj (by kernel_rfl)) (by unfold Func.isWrapper;first|(rw[qPr (by decide+kernel)];kernel_rfl)|(rw[qPt (by decide+kernel)];exact⟨rfl,rfl⟩))
  (fun os started H enc _=>lifted os started H enc)
theorem proved:Rows.TopWorthCardSaid:=
 Claim7.holds_tied_plain_at .later [] [.data,.data,.data,.data,.handle,.sentinel,.sentinel,.pinned] true (true, "b0efe09c56692b3ec3d6f81772cb88f1161014e308401e8e0f2f0e5b5b5f5e4b") true
  over (fun _ h=>by cases h) (by as_aux_lemma=>kernel_rfl) (fun _ h=>by cases h) topWorth_row_tie rfl ⟨rfl,rfl⟩ (by as_aux_lemma=>kernel_rfl) rfl
  (fun f fn hf hfn=>by
   obtain rfl:f=6:=qPv (named.symm.trans hf)|>.symm;obtain rfl:fn=Tryz.f6:=(qPv (Tryz.func6.symm.trans hfn)).symm;exact⟨by as_aux_lemma=>kernel_rfl,fun j t ht=>by
    rw[Tryz.params6]at ht;have hm:t∈[9,22,3,22]:=by simpa using Array.mem_of_getElem? ht
    have hall:([9,22,3,22].all fun u=> !Tryz.prog.wantsStandIn u)=true:=by kernel_rfl
    exact(show Tryz.prog.wantsStandIn t=false by simpa using List.all_eq_true.1 hall t hm)⟩)
  (by as_aux_lemma=>kernel_rfl)
#print axioms proved
end Go.Proofs.YtppnakkaljbmbaaGreatDoor.topWorth
end
