/- The law TopBack returns true: whatever is packed, at any level, scanned, kept beside, loaded, opened and read, as a whole and in any parts, is what was packed. For every input: no condition. A tied card. -/
import Derived.Test.YtppnakkaljbmbaaGreatDoorCards
import Derived.Test.YtppnakkaljbmbaaGreatDoorTie
import Derived.Test.YtppnakkaljbmbaaGreatDoorZY09
set_option linter.unusedVariables false
set_option linter.unusedSimpArgs false
set_option maxRecDepth 100000
set_option maxHeartbeats 8000000
section
namespace Go.Proofs.YtppnakkaljbmbaaGreatDoor.topBack
open Top Al To
open Go.ChangeShapes Go.WideShapes Go.ChangeAt Go.RowKit
open Go.ChangeMaps (open_string shut_string)
def qPn (k:IntKind) (w:World) (a:Option Addr) (len cap:Nat) (zs:List Int):Prop:=
 (a=none/\len=0/\cap=0/\zs=[])\/
 ∃x,a=some x/\len<=cap/\cap<=maxLen/\zs.length=cap/\(∀i,i<zs.length->w.cell? (x.add i)=some (.int k (zs.getD i 0)))/\∀n∈zs,(Lit.int k n).wf=true
theorem walk (a0:ByteArray) (a1:Option Addr) (len1 cap1:Nat) (z1:Nat->Int×Int) (a2:Int) (a3:Int) (a4:Option Addr) (len4 cap4:Nat) (z4:List Int) (w:World) (hm:Sh.HM w) (w0:a0.size<=maxLen) (w1:Kit.zEq .i64 w a1 len1 cap1 z1) (w2:(Lit.int .i64 a2).wf=true) (w3:(Lit.int .i64 a3).wf=true) (w4:qPn .i64 w a4 len4 cap4 z4):
  Calls Tryz.prog 3 #[.string a0,.slice a1 len1 cap1,.int .i64 a2,.int .i64 a3,.slice a4 len4 cap4] w fun e w'=>e= .returned (.bool true)/\Below w.heap.size w w':=by
 exact zLq a0 a1 len1 cap1 z1 a2 a3 a4 len4 cap4 z4 w w0 w1 (bounds_i64 w2).1 (bounds_i64 w2).2 (bounds_i64 w3).1 (bounds_i64 w3).2 w4 hm
theorem lifted (os:Os) (started:os.Started) (H:Type) (enc:TypeId×Value->H):
  ReturnsInHanded {} Tryz.checked os 3 .any (fun w args=>(Rows.topBackSpec.pre enc Tryz.prog Tryz.f3 [] false w args/\laidMetH Tryz.prog Rows.topBackRow.laid w)/\sizedMet enc Tryz.prog Tryz.f3 (OpenSpec.ofChange Rows.topBackSpec) false w args)
   (Rows.topBackSpec.post enc Tryz.prog Tryz.f3 false true false false):=by
 refine lift (C:=Tryz.checked) (X:=fun w _=>laidMetH Tryz.prog Rows.topBackRow.laid w) (fun _ _ _ hh h=>h.of_heap hh) own started (by kernel_rfl) Tryz.func3
  (ChangeSpec.witness_shaped (enc:=enc) (C:=Tryz.checked) (os:=os) (X:=fun w _=>laidMetH Tryz.prog Rows.topBackRow.laid w) false (World.layVars Tryz.prog ((World.holding Tryz.prog os ⟨#[],#[],[]⟩).setCell ⟨6,0,none⟩ (.iface 394 (.agg #[.pointer (some ⟨9,124,none⟩)]))) (Rows.topBackRow.laid.filter fun x=>x.2.handleName?.isNone)) #[.string ByteArray.empty,.slice none 0 0,.int .i64 0,.int .i64 0,.slice none 0 0] 8 (World.layVars_os _ _ _)
   (World.shaped_of_ZipB (by kernel_rfl) (by kernel_rfl)) (by kernel_rfl) (by kernel_rfl) (by kernel_rfl) (zR _ (by kernel_rfl) (by kernel_rfl) (by kernel_rfl))) ?_
 intro W base args ds gs before hval0 hW hsh;have hval:∀(j:Nat) t v,Tryz.f3.params[j]? =some t->args[j]? =some v->Value.okWide Tryz.prog W .any base t v:=hval0;have hW':=hW;obtain⟨p,q,hA0,hV,rfl,hfz,hnd⟩:=hW;have hA:DataW.TrodAll enc Tryz.prog W 0 (fun _=>true) true Tryz.f3.params.toList args.toList ds p:=hA0;rw[Tryz.params3]at hA hval;obtain⟨v0,vs0,d0,ds0,p0,q0,hargs,rfl,rfl,h0,r0⟩:=trodAll_cons hA;obtain⟨v1,vs1,d1,ds1,p1,q1,rfl,rfl,rfl,h1,r1⟩:=trodAll_cons r0;obtain⟨v2,vs2,d2,ds2,p2,q2,rfl,rfl,rfl,h2,r2⟩:=trodAll_cons r1;obtain⟨v3,vs3,d3,ds3,p3,q3,rfl,rfl,rfl,h3,r3⟩:=trodAll_cons r2;obtain⟨v4,vs4,d4,ds4,p4,q4,rfl,rfl,rfl,h4,r4⟩:=trodAll_cons r3;obtain⟨rfl,rfl,rfl⟩:=trodAll_nil r4;obtain rfl:args= #[v0,v1,v2,v3,v4]:=by cases args;simp_all
 obtain⟨rfl,rfl⟩:=trodVars_none hV;obtain⟨a0,rfl,rfl,rfl,w0⟩:=open_string Tryz.underlying9 (hval 0 9 v0 rfl rfl) h0;obtain⟨a1,len1,cap1,rfl⟩:=okWide_slice Tryz.underlying22 (hval 1 22 v1 rfl rfl);have k1:=h1;have lt1:∀x∈p1,x.block<W.heap.size:=by obtain⟨m,hm⟩:=k1;exact DataW.trod_lt m _ _ _ hm
 obtain⟨z1,w1⟩:∃g,Kit.zEq .i64 W a1 len1 cap1 g:=Kit.zUw Tryz.underlying22 Tryz.underlying88 Tryz.underlying3 (by kernel_rfl) (by kernel_rfl) h1;obtain⟨a2,rfl,rfl,rfl,w2⟩:=open_int Tryz.underlying3 (hval 2 3 v2 rfl rfl) h2;obtain⟨a3,rfl,rfl,rfl,w3⟩:=open_int Tryz.underlying3 (hval 3 3 v3 rfl rfl) h3;obtain⟨a4,len4,cap4,rfl⟩:=okWide_slice Tryz.underlying23 (hval 4 23 v4 rfl rfl);have k4:=h4;have lt4:∀x∈p4,x.block<W.heap.size:=by obtain⟨m,hm⟩:=k4;exact DataW.trod_lt m _ _ _ hm
 obtain⟨z4,w4⟩:∃zs,qPn .i64 W a4 len4 cap4 zs:=by
  obtain⟨fuel,hf⟩:=h4;rcases open_ints Tryz.underlying23 Tryz.underlying3 (by kernel_rfl) hf with⟨hcs,_⟩|⟨x,l,c,zs,hcs,_,hl,hm,hz,_,hcell,hwz⟩
  ·simp[Value.cells]at hcs;obtain⟨rfl,rfl,rfl⟩:=hcs;exact⟨[],.inl ⟨rfl,rfl,rfl,rfl⟩⟩
  ·simp[Value.cells]at hcs;obtain⟨rfl,rfl,rfl⟩:=hcs;exact⟨zs,.inr ⟨_,rfl,hl,hm,by simpa using hz,hcell,hwz⟩⟩
 clear hA0 hval0;refine(walk a0 a1 len1 cap1 z1 a2 a3 a4 len4 cap4 z4 W (zP8 hsh) w0 w1 w2 w3 w4).mono fun e W' ⟨he,bel⟩=> ?_;subst he;exact⟨_,rfl,_,_,_,[],_,[],hW',trodAll_mk1 (shut_bool Tryz.underlying4 _),(trodAll_cons_mk (shut_string Tryz.underlying9 w0) (trodAll_cons_mk (Below.trod laidOut (by kernel_rfl) (qTm (by kernel_rfl)) k1 bel lt1) (trodAll_cons_mk (shut_int Tryz.underlying3 w2) (trodAll_cons_mk (shut_int Tryz.underlying3 w3) (trodAll_cons_mk (Below.trod laidOut (by kernel_rfl) (qTm (by kernel_rfl)) k4 bel lt4) trodAll_mk0))))),rfl,bel.frame _,fun h=>by cases h⟩
theorem named:Tryz.prog.funcNamed "pressmark/pressmarktop.TopBack"=some 3:=by kernel_rfl
theorem closed:joinedFacts Tryz.prog 3 Tryz.f3 Rows.topBackSpec Rows.topBackRow=true:=by
 unfold joinedFacts
 iterate 31 refine qGh ?_ ?_
 all_goals as_aux_lemma=>kernel_rfl
theorem over:Rows.TopBackSaid:=
 OpenClaim.holds_of_wide 3 Tryz.f3 rfl rfl rfl rfl rfl rfl rfl ⟨rfl,rfl,rfl,rfl,rfl⟩ rfl rfl rfl rfl rfl named Tryz.func3 closed
  (qTm (by kernel_rfl)) (by unfold Func.isWrapper;first|(rw[qPr (by decide+kernel)];kernel_rfl)|(rw[qPt (by decide+kernel)];exact⟨rfl,rfl⟩))
  (fun os started H enc _=>lifted os started H enc)
theorem proved:Rows.TopBackCardSaid:=
 Claim7.holds_tied_plain_at .later [] [.data,.data,.data,.data,.handle,.sentinel,.sentinel,.pinned] true (true, "b0efe09c56692b3ec3d6f81772cb88f1161014e308401e8e0f2f0e5b5b5f5e4b") true
  over (fun _ h=>by cases h) (by as_aux_lemma=>kernel_rfl) (fun _ h=>by cases h) topBack_row_tie rfl ⟨rfl,rfl⟩ (by as_aux_lemma=>kernel_rfl) rfl
  (fun f fn hf hfn=>by
   obtain rfl:f=3:=qPv (named.symm.trans hf)|>.symm;obtain rfl:fn=Tryz.f3:=(qPv (Tryz.func3.symm.trans hfn)).symm;exact⟨by as_aux_lemma=>kernel_rfl,fun j t ht=>by
    rw[Tryz.params3]at ht;have hm:t∈[9,22,3,3,23]:=by simpa using Array.mem_of_getElem? ht
    have hall:([9,22,3,3,23].all fun u=> !Tryz.prog.wantsStandIn u)=true:=by kernel_rfl
    exact(show Tryz.prog.wantsStandIn t=false by simpa using List.all_eq_true.1 hall t hm)⟩)
  (by as_aux_lemma=>kernel_rfl)
#print axioms proved
end Go.Proofs.YtppnakkaljbmbaaGreatDoor.topBack
end
