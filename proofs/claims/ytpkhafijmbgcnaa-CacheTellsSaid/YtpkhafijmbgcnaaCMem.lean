/- Shelves in memory (chapter 21), and a set of numbers in a map of the call's own. -/
import Derived.Test.YtpkhafijmbgcnaaProg
import Derived.Test.YtpkhafijmbgcnaaCPlain
import Derived.Test.YtpkhafijmbgcnaaOwn
import Derived.Test.YtpkhafijmbgcnaaReg
import Derived.WalkKit
import Derived.WalkLawsBesides
import Derived.WalkSpells
import Derived.WalkSmall
import Derived.WalkArith
import Derived.Lib.Hide
import Derived.BigQuiet
import Derived.Maps.OwnOps
import Derived.Maps.OwnSet
import Derived.Maps.Views
namespace Go.Proofs.Ytpkhafijmbgcnaa
namespace Cache
open Go.RowKit
open Go.Maps (Keyed int_keyed keyOf_int_mk)
set_option linter.unusedVariables false

theorem ret_int {k : IntKind} {a b : Int} (h : a = b) : Ending.returned (.int k a) = .returned (.int k b) := by rw [h]
theorem ret_bool {a b : Bool} (h : a = b) : Ending.returned (.bool a) = .returned (.bool b) := by rw [h]
abbrev TH : TypeId := 50
abbrev TS : TypeId := 25
/-- The three cells of what is held. -/
abbrev hcells (h : Hd) : List Value := [.int .i64 h.blk, .int .i64 h.st, .string h.txt]
/-- A slice's value at 'a' reads as these. -/
def HSrc (w : World) (a : Option Addr) (l : List Hd) : Prop := ∀ j h, l[j]? = some h → ∃ b off, a = some ⟨b, off, none⟩ ∧ w.cell? ⟨b, off + j * 3, none⟩ = some (.int .i64 h.blk) ∧ w.cell? ⟨b, off + j * 3 + 1, none⟩ = some (.int .i64 h.st) ∧ w.cell? ⟨b, off + j * 3 + 2, none⟩ = some (.string h.txt)
theorem HSrc.below {w w' : World} {a : Option Addr} {l : List Hd} {B : Nat} (h : HSrc w a l) (hb : Below B w w') (hB : B = w.heap.size) : HSrc w' a l := by
  subst hB
  intro j x hx
  obtain ⟨b, off, ha, h0, h1, h2⟩ := h j x hx
  have hl : b < w.heap.size := block_lt_of_cell h0
  exact ⟨b, off, ha, by rw [hb.cell (p := ⟨b, off + j * 3, none⟩) hl]; exact h0, by rw [hb.cell (p := ⟨b, off + j * 3 + 1, none⟩) hl]; exact h1, by rw [hb.cell (p := ⟨b, off + j * 3 + 2, none⟩) hl]; exact h2⟩
theorem HSrc.nil (w : World) (a : Option Addr) : HSrc w a [] := by intro j h hx; simp at hx
theorem HSrc.take {w : World} {a : Option Addr} {l : List Hd} (h : HSrc w a l) (n : Nat) : HSrc w a (l.take n) := by
  intro j x hx
  refine h j x ?_
  rw [List.getElem?_take] at hx
  split at hx
  · exact hx
  · cases hx
theorem HSrc.at_ {w : World} {a : Option Addr} {l : List Hd} (h : HSrc w a l) (j : Nat) (hj : j < l.length) : ∃ b off, a = some ⟨b, off, none⟩ ∧ b < w.heap.size ∧ w.cell? ⟨b, off + j * 3, none⟩ = some (.int .i64 l[j].blk) ∧ w.cell? ⟨b, off + j * 3 + 1, none⟩ = some (.int .i64 l[j].st) ∧ w.cell? ⟨b, off + j * 3 + 2, none⟩ = some (.string l[j].txt) := by
  obtain ⟨b, off, ha, h0, h1, h2⟩ := h j l[j] (List.getElem?_eq_getElem hj)
  exact ⟨b, off, ha, block_lt_of_cell h0, h0, h1, h2⟩
/-- A shelf's value: what it reads as. -/
def sval (c : Sh) (a : Option Addr) (k : Nat) : Value := .agg #[.int .i64 c.room, .int .i64 c.clock, .slice a c.held.length k]

/-! ### A set of numbers in a map -/
abbrev Lk (x : Int) : Lit := .int .i64 x
abbrev DW := DataW Unit
abbrev yes : DW := .lit (.bool true)
abbrev seen (xs : List Int) : DW := Go.Maps.setOf yes (xs.map Lk)
theorem keyed (t : TypeId) (h : Try.prog.underlying t = some (.int .i64)) : Keyed Try.prog t := int_keyed h
theorem key_int {x : Int} (h1 : -9223372036854775808 ≤ x) (h2 : x ≤ 9223372036854775807) : keyOf Try.prog 3 (.int .i64 x) = some (Lk x) := by
  exact keyOf_int_mk Try.underlying3 (WalkArith.wf_i64 ⟨h1, h2⟩)
theorem keyLit (x : Int) : WideAt.IsKeyLit (Lk x) := by trivial
theorem same_lit (x y : Int) : (Lk x).sameKey (Lk y) = decide (x = y) := by
  rw [Bool.eq_iff_iff, decide_eq_true_eq]
  constructor
  · intro h
    by_cases e : x = y
    · exact e
    · have := Go.Maps.sameKey_ne (a := Lk x) (b := Lk y) (fun h => e (by injection h))
      rw [this] at h; cases h
  · rintro rfl
    rcases h : (Lk x).sameKey (Lk x) with _ | _
    · have h2 := Go.Maps.has_put_same (D := (.map [] : DW)) Go.Maps.isMap_empty (keyLit x) yes
      have h3 := Go.Maps.has_setOf yes (Lk x) [Lk x] (fun y hy => by rw [List.mem_singleton] at hy; subst hy; exact keyLit x)
      rw [show Go.Maps.setOf yes [Lk x] = (.map [] : DW).put (Lk x) yes from rfl, h2] at h3
      simp [h] at h3
    · rfl
theorem seen_isMap (xs : List Int) : Go.Maps.IsMap (seen xs) := (Go.Maps.tidy_setOf yes _ (fun x hx => by obtain ⟨y, _, rfl⟩ := List.mem_map.1 hx; exact keyLit y)).isMap
theorem seen_snoc (xs : List Int) (x : Int) : seen (xs ++ [x]) = (seen xs).put (Lk x) yes := by
  unfold seen
  rw [List.map_append, List.map_cons, List.map_nil, Go.Maps.setOf_snoc]
theorem snoc_ind {α : Type} {M : List α → Prop} (h0 : M []) (h1 : ∀ l x, M l → M (l ++ [x])) (l : List α) : M l := by
  rw [← List.reverse_reverse l]
  induction l.reverse with
  | nil => exact h0
  | cons x r ih => rw [List.reverse_cons]; exact h1 _ _ ih
theorem seen_at (x : Int) (z : DW) : ∀ xs, (seen xs).atKey (Lk x) z = if x ∈ xs then yes else z := by
  intro xs
  refine snoc_ind (M := fun xs => (seen xs).atKey (Lk x) z = if x ∈ xs then yes else z) rfl (fun l y ih => ?_) xs
  rw [seen_snoc]
  by_cases h : y = x
  · subst h
    rw [Go.Maps.atKey_put_same (seen_isMap l) (keyLit y), if_pos (by simp)]
  · rw [Go.Maps.atKey_put_other (fun e => h (by injection e with _ e; exact e.symm)), ih]
    by_cases h2 : x ∈ l
    · rw [if_pos h2, if_pos (by simp [h2])]
    · rw [if_neg h2, if_neg (by simp [h2, Ne.symm h])]
theorem bool_inv {e : TypeId} (he : Try.prog.underlying e = some .bool) {v : Value} {x : Bool} {ps : List MemPlace} (h : plainElem (H := Unit) Try.prog e v = some (.lit (.bool x), ps)) : v = .bool x := by
  unfold plainElem at h
  rw [he] at h
  cases v <;> simp at h
  rw [h.1]
/-- 'm[k]' in a set of numbers. -/
theorem look_seen {w : World} {b n : Nat} {xs : List Int} (h : w.ownsMap Try.prog 3 (plainElem Try.prog 4) b n (seen xs)) (x : Int) (h1 : -9223372036854775808 ≤ x) (h2 : x ≤ 9223372036854775807) :
    (Instr.lookup 54 (.map (some b)) (.int .i64 x) false).run Try.prog w = .ok (.bool (decide (x ∈ xs))) w := by
  obtain ⟨v, ps, hr, hv⟩ := h.lookup (keyed _ Try.underlying3) Try.underlying54 (show (zeroValue 4).run Try.prog w = .ok (.bool false) w from by kernel_rfl) (plainElem_bool Try.underlying4 false) (key_int h1 h2)
  rw [hr]
  rw [seen_at] at hv
  by_cases hx : x ∈ xs
  · rw [if_pos hx] at hv
    rw [bool_inv Try.underlying4 hv, decide_eq_true hx]
  · rw [if_neg hx] at hv
    rw [bool_inv Try.underlying4 hv, decide_eq_false hx]
end Cache
end Go.Proofs.Ytpkhafijmbgcnaa
