/- Slices of one-cell elements that a call makes itself, and what is appended to them; slices that are read. No program in sight. -/
import Derived.WalkKit
import Derived.ProofKit
import Derived.Laws.OwnMore
import Derived.Lib.SmallJoins
import Derived.BigFrame
namespace Go.Proofs.Ytpkhafijmbgcnaa
namespace Kit
open Go.RowKit
set_option linter.unusedVariables false

/-! ### 'min(len(s), n)' and the beginning of a text or a list of that length -/
theorem cut_len (len n : Nat) (N : Int) (hN : N = (n : Int)) : ∃ M : Nat, (if N < (len : Int) then N else (len : Int)) = (M : Int) ∧ M ≤ len ∧ M ≤ n ∧ RowKit.Hid (M = min len n) := by
  subst hN
  refine ⟨min len n, ?_, by omega, by omega, rfl⟩
  split <;> omega
theorem cut_text (s : ByteArray) (n : Nat) (N : Int) (hN : N = (n : Int)) : ∃ (M : Nat) (t : ByteArray), (if N < (s.size : Int) then N else (s.size : Int)) = (M : Int) ∧ M ≤ s.size ∧ s.extract 0 M = t ∧ t.size ≤ n ∧ RowKit.Hid (M = min s.size n) := by
  obtain ⟨M, h1, h2, h3, h4⟩ := cut_len s.size n N hN
  exact ⟨M, _, h1, h2, rfl, by rw [ByteArray.size_extract]; omega, h4⟩

/-- A slice's value at 'a' reads as these cells. -/
def Src (w : World) (a : Option Addr) (xs : List Value) : Prop := ∀ j u, xs[j]? = some u → ∃ b off, a = some ⟨b, off, none⟩ ∧ w.cell? ⟨b, off + j, none⟩ = some u

theorem addr_add (b off i : Nat) : (⟨b, off, none⟩ : Addr).add i = ⟨b, off + i, none⟩ := by
  unfold Addr.add; split <;> simp_all
theorem Src.below {w w' : World} {a : Option Addr} {xs : List Value} (h : Src w a xs) (hb : Below w.heap.size w w') : Src w' a xs := by
  intro j u hu
  obtain ⟨b, off, ha, hc⟩ := h j u hu
  exact ⟨b, off, ha, by rw [hb.cell (block_lt_of_cell hc), hc]⟩
theorem Src.nil (w : World) (a : Option Addr) : Src w a [] := by intro j u hu; simp at hu
theorem Src.take {w : World} {a : Option Addr} {xs : List Value} (h : Src w a xs) (n : Nat) : Src w a (xs.take n) := by
  intro j u hu
  refine h j u ?_
  rw [List.getElem?_take] at hu
  split at hu
  · exact hu
  · cases hu

/-- One new cell. -/
theorem new_one (w : World) (v : Value) (t : TypeId) : Src (w.alloc (.cells #[v] t)) (some ⟨w.heap.size, 0, none⟩) [v] := by
  intro j u hu
  match j, hu with
  | 0, hu => exact ⟨_, _, rfl, by simp at hu; subst hu; simp⟩

/-- A slice's value of n elements, that owns its cells. -/
def Own (w : World) (B : Nat) (e : TypeId) (a : Option Addr) (n c : Nat) (xs : List Value) : Prop := w.ownsRow B e 1 (.slice a n c) n xs

theorem Own.len {w : World} {B : Nat} {e : TypeId} {a : Option Addr} {n c : Nat} {xs : List Value} (h : Own w B e a n c xs) : xs.length = n := by
  have := h.1; omega
theorem Own.start (w : World) (B : Nat) (e : TypeId) : Own w B e none 0 0 [] := World.ownsRow_nil w B e 1
theorem Own.at_ {w : World} {B : Nat} {e : TypeId} {a : Option Addr} {n c : Nat} {xs : List Value} (h : Own w B e a n c xs) (hn : 0 < n) :
    ∃ g, a = some ⟨g, 0, none⟩ ∧ B ≤ g ∧ g < w.heap.size ∧ n ≤ c ∧ (∀ j, j < n → w.cell? ⟨g, j, none⟩ = xs[j]?) ∧ (∀ j, w.frozen? ⟨g, j, none⟩ = false) := by
  have h0 := h
  obtain ⟨_, h1⟩ := h
  rcases h1 with ⟨_, h2⟩ | ⟨g, cap, cur, hv, hb, hg, hnc, hcm, hs, ht⟩
  · omega
  · injection hv with ha hn hc
    subst ha hc
    refine ⟨g, rfl, hb, ?_, hnc, fun j hj => ?_, fun j => ?_⟩
    · rcases Nat.lt_or_ge g w.heap.size with hlt | hge
      · exact hlt
      · rw [Array.getElem?_eq_none hge] at hg; cases hg
    · exact World.ownsRow.cellAt h0 j (by omega)
    · exact World.ownsRow.frozenAt h0 j
theorem Own.src {w : World} {B : Nat} {e : TypeId} {a : Option Addr} {n c : Nat} {xs : List Value} (h : Own w B e a n c xs) : Src w a xs := by
  intro j u hu
  have hl := h.len
  have hj : j < xs.length := by
    rcases Nat.lt_or_ge j xs.length with h1 | h1
    · exact h1
    · rw [List.getElem?_eq_none h1] at hu; cases hu
  obtain ⟨g, ha, _, _, _, hc, _⟩ := h.at_ (by omega)
  exact ⟨g, 0, ha, by rw [Nat.zero_add, hc j (by omega), hu]⟩
theorem Own.below {w w' : World} {B D : Nat} {e : TypeId} {a : Option Addr} {n c : Nat} {xs : List Value} (h : Own w B e a n c xs) (hb : Below D w w') (hD : w.heap.size ≤ D) : Own w' B e a n c xs := by
  obtain ⟨h1, h2⟩ := h
  refine ⟨h1, ?_⟩
  rcases h2 with h2 | ⟨g, cap, cur, hv, hbg, hg, r⟩
  · exact .inl h2
  · refine .inr ⟨g, cap, cur, hv, hbg, ?_, r⟩
    have hlt : g < w.heap.size := by
      rcases Nat.lt_or_ge g w.heap.size with hlt | hge
      · exact hlt
      · rw [Array.getElem?_eq_none hge] at hg; cases hg
    rw [hb.block g (by omega), hg]
theorem Own.alloc {w : World} {B : Nat} {e : TypeId} {a : Option Addr} {n c : Nat} {xs : List Value} (h : Own w B e a n c xs) (o : Obj) : Own (w.alloc o) B e a n c xs := World.ownsRow.alloc h o
theorem Own.base {w : World} {B B' : Nat} {e : TypeId} {a : Option Addr} {n c : Nat} {xs : List Value} (h : Own w B e a n c xs) (hB : B' ≤ B) : Own w B' e a n c xs := by
  obtain ⟨h1, h2⟩ := h
  refine ⟨h1, ?_⟩
  rcases h2 with h2 | ⟨g, cap, cur, hv, hbg, r⟩
  · exact .inl h2
  · exact .inr ⟨g, cap, cur, hv, by omega, r⟩

/-- A type of one-cell elements, as the program's table has it. -/
structure One (P : Program) (t e : TypeId) (bytes : Nat) : Prop where
  ut : P.underlying t = some (.slice e)
  row : ∃ z : Value, (P.info? e).map (fun i => (i.zero, i.size, i.bytes)) = some (some z, 1, bytes) ∧ z.cells.size = 1

/-- 'append(v, x...)': v is nil or the call's own, x is any slice that reads as 'news'. -/
theorem Own.app {P : Program} {w : World} {B bytes : Nat} {t ty e : TypeId} {a : Option Addr} {n c : Nat} {xs : List Value} (o : One P t e bytes) (h : Own w B e a n c xs)
    (x : Option Addr) (m cx : Nat) (news : List Value) (hs : Src w x news) (hm : news.length = m) (hx : x = none → m = 0 ∧ cx = 0) (h1 : ∀ u ∈ news, u.oneCell' = true)
    (h63 : n + m ≤ maxLen) (hbytes : (n + m) * bytes ≤ 140737488355328) (hbase : B ≤ w.heap.size) :
    ∃ a' c' w', (Builtin.append_ #[t, t] ty #[.slice a n c, .slice x m cx]).run P w = .ok (.slice a' (n + m) c') w' ∧ Own w' B e a' (n + m) c' (xs ++ news) ∧ w.grownBy w' (Value.ownBlock (.slice a n c)) := by
  obtain ⟨z, hz, hzs⟩ := o.row
  obtain ⟨i, hi, hz0, hz1, hz2⟩ := info_parts hz
  have form : ∀ {v : Value} {w' : World} {k : Nat} {ys : List Value}, w'.ownsRow B e 1 v k ys → ∃ a' c', v = .slice a' k c' := by
    intro v w' k ys hv
    rcases Joins.ownsRow_forms hv with ⟨rfl, rfl⟩ | ⟨g, cap, rfl⟩
    · exact ⟨_, _, rfl⟩
    · exact ⟨_, _, rfl⟩
  cases x with
  | none =>
    obtain ⟨rfl, rfl⟩ := hx rfl
    have hn : news = [] := List.eq_nil_of_length_eq_zero hm
    subst hn
    refine ⟨a, c, w, run_append_owned_none (P := P) (w := w) B t ty e i 1 o.ut hi _ n xs h, by simpa using h, ⟨rfl, rfl, rfl, Nat.le_refl _, fun _ _ _ => rfl⟩⟩
  | some y =>
    obtain ⟨v', w', hr, ho, hg, _⟩ := run_append_own (P := P) w B t ty e i z 1 bytes o.ut hi hz0 hz1 hz2 hzs (by omega) _ n xs h y m cx news (by omega)
      (fun j u hu => by
        obtain ⟨b', off', ha, hc⟩ := hs j u hu
        injection ha with ha
        subst ha
        rw [addr_add]; exact hc) h1 h63 hbytes hbase
    obtain ⟨a', c', rfl⟩ := form ho
    exact ⟨a', c', w', hr, ho, hg⟩
/-- The operation 'append', wanted (under a guard or none), by what it comes to. -/
theorem app_eq {P : Program} {w w' : World} {ops : Array Oper} {rest : List Oper} {o : Oper} {a : Act} {Q : Exit → Act → World → Prop} (hw : Region.wanted o (yielded ops a.tmps) = true) (s x : Operand) (t : TypeId)
    (ho : o.op = .call { callee := .builtin .append, args := #[s, x], argTypes := #[t, t] }) {v y v' : Value} (hs : a.eval s = v) (hx : a.eval x = y)
    (hr : (Builtin.append_ #[t, t] o.type #[v, y]).run P w = .ok v' w') (h : wpList P ops Q rest (a.put o.dst v') w') : wpList P ops Q (o :: rest) a w := by
  refine BigFrame.wpList_want hw fun K hK => ?_
  unfold Oper.wp execOp
  simp only [ho, resolve, invoke, builtin, Sem.run_bind, Sem.run_pure, Result.andThen_ok, List.map_toArray, List.map_cons, List.map_nil, hs, hx, hr]
  exact hK _ _ h
/-- The same as one step of a region that draws its order. -/
theorem step_app_eq {P : Program} {w w' : World} {ops : Array Oper} {o : Oper} {a : Act} {K : Act → World → Prop} {Q : Exit → Act → World → Prop} {E : Prop} (hg : o.guard = none) (s x : Operand) (t : TypeId)
    (ho : o.op = .call { callee := .builtin .append, args := #[s, x], argTypes := #[t, t] }) {v y v' : Value} (hs : a.eval s = v) (hx : a.eval x = y)
    (hr : (Builtin.append_ #[t, t] o.type #[v, y]).run P w = .ok v' w') (h : K (a.put o.dst v') w') : if Region.wanted o (yielded ops a.tmps) = true then Oper.wp P o a w K Q else E := by
  have hw : Region.wanted o (yielded ops a.tmps) = true := by simp [Region.wanted, hg]
  rw [if_pos hw]
  unfold Oper.wp execOp
  simp only [ho, resolve, invoke, builtin, Sem.run_bind, Sem.run_pure, Result.andThen_ok, List.map_toArray, List.map_cons, List.map_nil, hs, hx, hr]
  exact h
/-- What an append leaves is below the call's own blocks as it was. -/
theorem grown_below {w w' : World} {B : Nat} {v : Value} (hg : w.grownBy w' (Value.ownBlock v)) (hB : B ≤ w.heap.size) (hv : ∀ k, v.ownBlock = some k → B ≤ k) : Below B w w' :=
  (Below.refl _ _).grown hg hB hv
theorem Own.block {w : World} {B : Nat} {e : TypeId} {a : Option Addr} {n c : Nat} {xs : List Value} (h : Own w B e a n c xs) : ∀ k, (Value.slice a n c).ownBlock = some k → B ≤ k := by
  intro k hk
  exact (World.ownsRow.lt h k hk).1
/-- A store into what is owned. -/
theorem Own.set {w : World} {B : Nat} {e : TypeId} {g n c : Nat} {xs : List Value} (h : Own w B e (some ⟨g, 0, none⟩) n c xs) (j : Nat) (u : Value) (hj : j < n) : Own (w.setCell ⟨g, j, none⟩ u) B e (some ⟨g, 0, none⟩) n c (xs.set j u) := by
  obtain ⟨h1, h2⟩ := h
  refine ⟨by rw [List.length_set]; exact h1, ?_⟩
  rcases h2 with ⟨h2, _⟩ | ⟨g', cap, cur, hv, hbg, hg, hnc, hcm, hs, ht⟩
  · cases h2
  · injection hv with ha hn hc
    injection ha with ha
    injection ha with ha
    subst ha hc
    refine .inr ⟨g, c, cur.setIfInBounds j u, rfl, hbg, ?_, hnc, hcm, by simpa using hs, ?_⟩
    · simp [World.setCell, Array.getElem?_modify, hg]
    · rw [← ht]
      simp [List.take_set]
end Kit
end Go.Proofs.Ytpkhafijmbgcnaa
