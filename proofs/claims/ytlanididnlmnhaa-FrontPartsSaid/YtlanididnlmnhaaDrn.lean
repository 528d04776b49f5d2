/- Steps of a region that draws its order, taken one by one: what yields the same in every world is taken first; what is alone to come up is walked. No program in sight. -/
import Derived.Test.YtlanididnlmnhaaOwn
import Derived.RegionTactic
namespace Go.Proofs.Ytlanididnlmnhaa
namespace Kit
open Go.RowKit
set_option linter.unusedVariables false

section
variable {P : Program} {ops : Array Oper} {Q : Exit → Act → World → Prop} {md : Region.Mode}
theorem drn_start {id : Nat} {a : Act} {w : World} (hm : P.follows .mixedOrders = true) (h : wpAny P .any ops Q ops.size (Array.replicate ops.size false) a w.drew) : (Code.region id ops true).wp P Q a w :=
  wp_region_any hm h
/-- An operation that is wanted, and yields 'v' in every world. -/
theorem drn_take (i : Nat) {o : Oper} (v : Value) {fuel : Nat} {listed : Array Bool} {a : Act} {w : World} (hi : ops[i]? = some o) (hs : Region.noSelect ops = true) (hf : Region.free md ops listed i = true)
    (hr : (Region.ready md ops listed).contains i = true) (hQ : ∀ c a w, Q (.panic c) (a.put o.dst v) w → Q (.panic c) a w) (hw : Region.wanted o (yielded ops a.tmps) = true) (hv : ∀ w, (execOp a.eval o).run P w = .ok (.value v) w)
    (h : wpAny P md ops Q fuel (listed.setIfInBounds i true) (a.put o.dst v) w) : wpAny P md ops Q (fuel + 1) listed a w :=
  wpAny_take hi hs hf hr hQ (.inl ⟨hw, hv⟩) h
/-- An operation that its guard passes over. -/
theorem drn_skip (i : Nat) {o : Oper} {fuel : Nat} {listed : Array Bool} {a : Act} {w : World} (hi : ops[i]? = some o) (hs : Region.noSelect ops = true) (hf : Region.free md ops listed i = true)
    (hr : (Region.ready md ops listed).contains i = true) (hQ : ∀ c a w, Q (.panic c) (a.put o.dst undef) w → Q (.panic c) a w) (hw : Region.wanted o (yielded ops a.tmps) = false)
    (h : wpAny P md ops Q fuel (listed.setIfInBounds i true) (a.put o.dst undef) w) : wpAny P md ops Q (fuel + 1) listed a w :=
  wpAny_take hi hs hf hr hQ (.inr ⟨hw, rfl⟩) h
/-- The one operation that may come up. -/
theorem drn_one (i : Nat) {o : Oper} {fuel : Nat} {listed : Array Bool} {a : Act} {w : World} (hi : ops[i]? = some o) (hr : Region.ready md ops listed = [i]) (hw : Region.wanted o (yielded ops a.tmps) = true)
    (h : Oper.wp P o a w (wpAny P md ops Q fuel (listed.setIfInBounds i true)) Q) : wpAny P md ops Q (fuel + 1) listed a w :=
  wpAny_ready hr (by simp) (AllReady.cons hi (fun K hK => by rw [if_pos hw]; exact Oper.wp_mono hK h) AllReady.nil)
theorem drn_call {o : Oper} {a : Act} {w : World} {K : Act → World → Prop} (f : FuncId) (args : Array Value) (v : Value) {R : World → Prop}
    (hrun : (execOp a.eval o).run P w = .ok (.enter f args) w) (hc : Calls P f args w fun e w'' => e = .returned v ∧ R w'') (h : ∀ w', R w' → K (a.put o.dst v) w') : Oper.wp P o a w K Q := by
  unfold Oper.wp
  rw [hrun, Oper.upon_enter]
  refine hc.mono fun e w'' hh => ?_
  obtain ⟨rfl, hR⟩ := hh
  exact h _ hR
theorem drn_val {o : Oper} {a : Act} {w w' : World} {K : Act → World → Prop} (v : Value) (hrun : (execOp a.eval o).run P w = .ok (.value v) w') (h : K (a.put o.dst v) w') : Oper.wp P o a w K Q := by
  unfold Oper.wp
  rw [hrun, Oper.upon_value]
  exact h
end
theorem run_app {P : Program} {ρ : Operand → Value} {o : Oper} {w w' : World} (s x : Operand) (t : TypeId) {v y v' : Value} (ho : o.op = .call { callee := .builtin .append, args := #[s, x], argTypes := #[t, t] })
    (hs : ρ s = v) (hx : ρ x = y) (hr : (Builtin.append_ #[t, t] o.type #[v, y]).run P w = .ok v' w') : (execOp ρ o).run P w = .ok (.value v') w' := by
  unfold execOp
  simp only [ho, resolve, invoke, builtin, Sem.run_bind, Sem.run_pure, Result.andThen_ok, List.map_toArray, List.map_cons, List.map_nil, hs, hx, hr]
theorem run_same_text {P : Program} {ρ : Operand → Value} {o : Oper} {x y : Operand} {t u : TypeId} (s : ByteArray) (ho : o.op = .binOp .eql t x y u) (hx : ρ x = .string s) (hy : ρ y = .string s) (w : World) : (execOp ρ o).run P w = .ok (.value (.bool true)) w := by
  unfold execOp
  simp [ho, hx, hy, go_sem]
theorem run_eq_int {P : Program} {ρ : Operand → Value} {o : Oper} {x y : Operand} {t u : TypeId} {k : IntKind} {m n : Int} (b : Bool) (ho : o.op = .binOp .eql t x y u) (hx : ρ x = .int k m) (hy : ρ y = .int k n) (hb : (m == n) = b) (w : World) : (execOp ρ o).run P w = .ok (.value (.bool b)) w := by
  unfold execOp
  simp [ho, hx, hy, go_sem, hb]
theorem run_index_text {P : Program} {ρ : Operand → Value} {o : Oper} {x y : Operand} {t : TypeId} (ht : P.underlying t = some .string) (s : ByteArray) (k : Nat) (hk : k < s.size) (ho : o.op = .index t x y) (hx : ρ x = .string s) (hy : ρ y = .int .i64 (k : Int)) (w : World) : (execOp ρ o).run P w = .ok (.value (.int .u8 (s[k].toNat : Int))) w := by
  unfold execOp
  simp [ho, hx, hy, go_sem, run_index_string w t s .i64 (k : Int) ht, hk]
theorem run_sub_one {P : Program} {ρ : Operand → Value} {o : Oper} {x : Operand} {t u : TypeId} (k : Nat) (hk0 : 0 < k) (hk : k ≤ 100000) (ho : o.op = .binOp .sub t x (.const (.int .i64 1)) u) (hx : ρ x = .int .i64 (k : Int)) (hc : ρ (.const (.int .i64 1)) = .int .i64 1) (w : World) : (execOp ρ o).run P w = .ok (.value (.int .i64 ((k - 1 : Nat) : Int))) w := by
  have e : IntKind.i64.wrap ((k : Int) - 1) = ((k - 1 : Nat) : Int) := by
    rw [show ((k : Int) - 1) = ((k - 1 : Nat) : Int) from by omega]
    exact IntWalk.i64_in _ (by omega)
  unfold execOp
  simp [ho, hx, hc, go_sem, e]
end Kit
end Go.Proofs.Ytlanididnlmnhaa
