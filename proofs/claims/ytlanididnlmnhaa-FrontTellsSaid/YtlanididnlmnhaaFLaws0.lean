/- What the walks of layer 5's laws share. -/
import Derived.Test.YtlanididnlmnhaaFCalls12
import Derived.Test.YtlanididnlmnhaaFPlain2
namespace Go.Proofs.Ytlanididnlmnhaa
namespace Front
open Go.RowKit
open Kit (bval)
set_option linter.unusedVariables false

/-- A slice of integers that came in. -/
theorem ints_of {w : World} {a : Option Addr} {len cap : Nat} {zs : List Int} (h : (a = none ∧ len = 0 ∧ cap = 0 ∧ zs = []) ∨
  ∃ x, a = some x ∧ len ≤ cap ∧ cap ≤ maxLen ∧ zs.length = cap ∧ (∀ i, i < zs.length → w.cell? (x.add i) = some (.int .i64 (zs.getD i 0))) ∧ ∀ n ∈ zs, (Lit.int .i64 n).wf = true) :
    ∃ l : List Int, l.length = len ∧ len ≤ maxLen ∧ len ≤ cap ∧ cap ≤ maxLen ∧ (a = none → len = 0 ∧ cap = 0) ∧ Kit.Src w a (l.map inum) ∧ ∀ x ∈ l, -9223372036854775808 ≤ x ∧ x ≤ 9223372036854775807 := by
  rcases h with ⟨rfl, rfl, rfl, rfl⟩ | ⟨x, rfl, hl, hm, hz, hcell, hwz⟩
  · exact ⟨[], rfl, Nat.zero_le _, Nat.le_refl _, Nat.zero_le _, fun _ => ⟨rfl, rfl⟩, Kit.Src.nil _ _, fun x h => by cases h⟩
  · refine ⟨zs.take len, by rw [List.length_take]; omega, by omega, hl, hm, fun h => (by cases h), ?_, fun x hx => bounds_i64 (hwz x (List.mem_of_mem_take hx))⟩
    intro j u hu
    rw [List.getElem?_map] at hu
    obtain ⟨y, hy, rfl⟩ := Option.map_eq_some_iff.1 hu
    obtain ⟨hj, rfl⟩ := List.getElem?_eq_some_iff.1 hy
    have hj2 : j < zs.length := by rw [List.length_take] at hj; omega
    have h0 := hcell 0 (by omega)
    have h := hcell j hj2
    obtain ⟨b, off, spot⟩ := x
    have hspot : spot = none := by simpa [Addr.add] using World.cell?_spot h0
    subst hspot
    refine ⟨b, off, rfl, ?_⟩
    rw [Kit.addr_add] at h
    rw [h, List.getElem_take]
    simp [hj2]

/-! ### Places that raw numbers speak of -/
def picks (a : T) (l : List Int) : List Nat := if a = [] then [] else l.map fun r => (pk r (a.length : Int)).toNat
theorem picks_nil (l : List Int) : picks [] l = [] := by unfold picks; rw [if_pos rfl]
theorem picks_snoc (a : T) (l : List Int) (r : Int) (h : ¬ a = []) : picks a (l ++ [r]) = picks a l ++ [(pk r (a.length : Int)).toNat] := by
  unfold picks; rw [if_neg h, if_neg h]; simp
theorem picks_length (a : T) (l : List Int) (h : ¬ a = []) : (picks a l).length = l.length := by unfold picks; rw [if_neg h]; simp
theorem picks_le (a : T) (l : List Int) : (picks a l).length ≤ l.length := by unfold picks; split <;> simp
theorem picks_lt (a : T) (l : List Int) : ∀ k ∈ picks a l, k < a.length := by
  intro k hk
  unfold picks at hk
  split at hk
  · cases hk
  · rename_i h
    obtain ⟨r, _, rfl⟩ := List.mem_map.1 hk
    have hl : 1 ≤ (a.length : Int) := by have := List.length_pos_iff.2 h; omega
    have h1 := pk_lo r _ hl
    have h2 := pk_hi r _ hl
    omega
theorem text_len (a : T) (l : List Int) : (text a l).length = (picks a l).length := by
  unfold text picks; split <;> simp

/-! ### What the alphabet of a text does to the texts of its bytes -/
section
variable (A : T) (hA : A.Nodup)
include hA
theorem right_nodup : right A = true := (right_iff A).2 hA
theorem codeF_all {s : T} (h : all A s = true) : codeF A s = 0 := codeF_ok A s (right_nodup A hA) h
theorem resF_all {s : T} (h : all A s = true) : resF A s = plcs A s := resF_bad A s (codeF_all A hA h)
theorem resA_all {s : T} (h : all A s = true) : resA A s = fins A s := resA_ok A s (codeF_all A hA h)
theorem codeB_all {l : List Nat} (h : ∀ k ∈ l, k < A.length) : codeB A (l.map fun k : Nat => (k : Int)) = 0 := codeB_ok A _ (right_nodup A hA) (inR_of _ _ h)
theorem resB_all {l : List Nat} (h : ∀ k ∈ l, k < A.length) : resB A (l.map fun k : Nat => (k : Int)) = unp A l := by
  rw [resB_ok A _ (codeB_all A hA h), nats_of]
end
theorem byte_xor (x y : UInt8) : bits .xor .u8 (x.toNat : Int) (y.toNat : Int) = ((x ^^^ y).toNat : Int) := by
  rw [u8_xor_nat _ _ (by have := x.toNat_lt; omega) (by have := y.toNat_lt; omega), ← UInt8.toNat_xor]
theorem byte_of {n : Int} (h0 : 0 ≤ n) (h1 : n ≤ 255) : ∃ t : UInt8, n = (t.toNat : Int) := by
  refine ⟨UInt8.ofNat n.toNat, ?_⟩
  rw [UInt8.toNat_ofNat']; omega
theorem front_all (A s : T) (hA : A.Nodup) (h : all A s = true) (h1 : A.length ≤ 1000) (h2 : s.length ≤ 1000) (w : World) :
    Calls Try.prog 15 #[.string (bs A), .string (bs s)] w fun e w' => ∃ p c, e = .returned (.tuple #[.slice p s.length c, .int .i64 0]) ∧ Kit.Src w' p (((plcs A s).map fun k : Nat => (k : Int)).map inum) ∧ Below w.heap.size w w' := by
  have := front_lit (bs A) (bs s) (plcs A s) 0 (by rw [bs_size]; exact h1) (by rw [bs_size]; exact h2) (by rw [bs_list, bs_list]; exact resF_all A hA h) (by rw [bs_list, bs_list]; exact codeF_all A hA h) w
  rw [plcs_length] at this
  exact this
theorem front_allN (A s : T) (hA : A.Nodup) (h : all A s = true) (h1 : A.length ≤ 1000) (h2 : s.length ≤ 1000) (w : World) :
    Calls Try.prog 15 #[.string (bs A), .string (bs s)] w fun e w' => ∃ p c, e = .returned (.tuple #[.slice p s.length c, .int .i64 0]) ∧ Kit.Src w' p ((plcs A s).map ival) ∧ Below w.heap.size w w' ∧ (p = none → s.length = 0 ∧ c = 0) := by
  refine (front_anyN (bs A) (bs s) (by rw [bs_size]; exact h1) (by rw [bs_size]; exact h2) w).mono ?_
  rintro e w' ⟨p, c, rfl, hs, hb, hn⟩
  have e1 : resF (bs A).data.toList (bs s).data.toList = plcs A s := by rw [bs_list, bs_list]; exact resF_all A hA h
  have e2 : codeF (bs A).data.toList (bs s).data.toList = 0 := by rw [bs_list, bs_list]; exact codeF_all A hA h
  rw [e1] at hs
  rw [e1, e2, plcs_length]
  refine ⟨p, c, rfl, hs, hb, fun hp => ⟨?_, hn hp⟩⟩
  cases s with
  | nil => rfl
  | cons x s =>
    obtain ⟨b, off, ha, _⟩ := hs 0 (ival (A.idxOf x)) rfl
    rw [hp] at ha; cases ha
/-- 'append' as one step of a region that draws, wanted under a guard. -/
theorem step_app_if {P : Program} {w w' : World} {ops : Array Oper} {o : Oper} {a : Act} {K : Act → World → Prop} {Q : Exit → Act → World → Prop} {E : Prop} (hw : Region.wanted o (yielded ops a.tmps) = true) (s x : Operand) (t : TypeId)
    (ho : o.op = .call { callee := .builtin .append, args := #[s, x], argTypes := #[t, t] }) {v y v' : Value} (hs : a.eval s = v) (hx : a.eval x = y)
    (hr : (Builtin.append_ #[t, t] o.type #[v, y]).run P w = .ok v' w') (h : K (a.put o.dst v') w') : if Region.wanted o (yielded ops a.tmps) = true then Oper.wp P o a w K Q else E := by
  rw [if_pos hw]
  unfold Oper.wp execOp
  simp only [ho, resolve, invoke, builtin, Sem.run_bind, Sem.run_pure, Result.andThen_ok, List.map_toArray, List.map_cons, List.map_nil, hs, hx, hr]
  exact h
/-- A call by its contract, as one step of a region that draws. -/
theorem step_call_if {P : Program} {w : World} {ops : Array Oper} {o : Oper} {a : Act} {K : Act → World → Prop} {Q : Exit → Act → World → Prop} {E : Prop} (hw : Region.wanted o (yielded ops a.tmps) = true) (f : FuncId) (args : Array Value)
    (hrun : (execOp a.eval o).run P w = .ok (.enter f args) w) (v : Value) {R : World → Prop} (hc : Calls P f args w fun e w'' => e = .returned v ∧ R w'') (h : ∀ w', R w' → K (a.put o.dst v) w') : if Region.wanted o (yielded ops a.tmps) = true then Oper.wp P o a w K Q else E := by
  rw [if_pos hw]
  unfold Oper.wp
  rw [hrun, Oper.upon_enter]
  refine hc.mono fun e w'' hh => ?_
  obtain ⟨rfl, hR⟩ := hh
  exact h _ hR
theorem after_all (A s : T) (hA : A.Nodup) (h : all A s = true) (h1 : A.length ≤ 1000) (h2 : s.length ≤ 1000) (w : World) :
    Calls Try.prog 17 #[.string (bs A), .string (bs s)] w fun e w' => e = .returned (.tuple #[.string (bs (fins A s)), .int .i64 0]) ∧ Below w.heap.size w w' :=
  after_lit (bs A) (bs s) (fins A s) 0 (by rw [bs_size]; exact h1) (by rw [bs_size]; exact h2) (by rw [bs_list, bs_list]; exact resA_all A hA h) (by rw [bs_list, bs_list]; exact codeF_all A hA h) w
theorem back_all (A : T) (l : List Nat) (p : Option Addr) (c n : Nat) (hA : A.Nodup) (h : ∀ k ∈ l, k < A.length) (h1 : A.length ≤ 1000) (hn : l.length = n) (h2 : n ≤ 1000) (w : World) (hs : Kit.Src w p ((l.map fun k : Nat => (k : Int)).map inum)) :
    Calls Try.prog 20 #[.string (bs A), .slice p n c] w fun e w' => e = .returned (.tuple #[.string (bs (unp A l)), .int .i64 0]) ∧ Below w.heap.size w w' :=
  back_lit (bs A) p c n (l.map fun k : Nat => (k : Int)) (by rw [List.length_map]; exact hn) (unp A l) 0 (by rw [bs_size]; exact h1) (by omega) (by rw [bs_list]; exact resB_all A hA h) (by rw [bs_list]; exact codeB_all A hA h) w hs
theorem ints_one (l : List Nat) : (l.map fun k : Nat => (k : Int)).map inum = l.map ival := by rw [List.map_map]; rfl
theorem list_empty (A : T) : (bs A).toList.isEmpty = decide (A = []) := by
  rw [Lib.toList_data, bs_list]
  cases A <;> simp
end Front
end Go.Proofs.Ytlanididnlmnhaa
