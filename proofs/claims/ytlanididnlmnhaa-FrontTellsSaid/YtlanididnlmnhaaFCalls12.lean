/- Contracts of layer 5 (front), twelfth part: the first calls, whose answers are fixed. -/
import Derived.Test.YtlanididnlmnhaaFCalls11
namespace Go.Proofs.Ytlanididnlmnhaa
namespace Front
open Go.RowKit
open Kit (bval)
set_option linter.unusedVariables false

theorem front_lit (a s : ByteArray) (l : List Nat) (cd : Int) (ha : a.size ≤ 1000) (hs : s.size ≤ 1000) (h1 : resF a.data.toList s.data.toList = l) (h2 : codeF a.data.toList s.data.toList = cd) (w : World) :
    Calls Try.prog 15 #[.string a, .string s] w fun e w' => ∃ p c, e = .returned (.tuple #[.slice p l.length c, .int .i64 cd]) ∧ Kit.Src w' p ((l.map fun k : Nat => (k : Int)).map inum) ∧ Below w.heap.size w w' := by
  subst h1 h2
  refine (front_any a s ha hs w).mono ?_
  rintro e w' ⟨p, c, rfl, h, hb⟩
  exact ⟨p, c, rfl, by rw [List.map_map]; exact h, hb⟩
theorem after_lit (a s : ByteArray) (l : T) (cd : Int) (ha : a.size ≤ 1000) (hs : s.size ≤ 1000) (h1 : resA a.data.toList s.data.toList = l) (h2 : codeF a.data.toList s.data.toList = cd) (w : World) :
    Calls Try.prog 17 #[.string a, .string s] w fun e w' => e = .returned (.tuple #[.string (bs l), .int .i64 cd]) ∧ Below w.heap.size w w' := by
  subst h1 h2
  refine (after_any a s ha hs w).mono ?_
  rintro e w' ⟨rfl, hb⟩
  exact ⟨by rw [bs_eq], hb⟩
theorem back_lit (a : ByteArray) (p : Option Addr) (c n : Nat) (l : List Int) (hl : l.length = n) (o : T) (cd : Int) (ha : a.size ≤ 1000) (hn : n ≤ 100000) (h1 : resB a.data.toList l = o) (h2 : codeB a.data.toList l = cd) (w : World) (hsrc : Kit.Src w p (l.map inum)) :
    Calls Try.prog 20 #[.string a, .slice p n c] w fun e w' => e = .returned (.tuple #[.string (bs o), .int .i64 cd]) ∧ Below w.heap.size w w' := by
  subst h1 h2
  refine (back_any a ha p c n l hl hn w hsrc).mono ?_
  rintro e w' ⟨rfl, hb⟩
  exact ⟨by rw [bs_eq], hb⟩

theorem src_new (w : World) (l : List Int) (t : TypeId) : Kit.Src (w.alloc (.cells (l.map inum).toArray t)) (some ⟨w.heap.size, 0, none⟩) (l.map inum) := by
  intro j u hu
  refine ⟨_, _, rfl, ?_⟩
  rw [Nat.zero_add]
  have hj : j < (l.map inum).length := by
    rcases Nat.lt_or_ge j (l.map inum).length with h | h
    · exact h
    · rw [List.getElem?_eq_none h] at hu; cases hu
  simp
  simpa using hu

set_option maxRecDepth 100000 in
set_option maxHeartbeats 1000000 in
theorem awake_any (w : World) : Calls Try.prog 9 #[] w fun e w' => e = .returned (.bool true) ∧ Below w.heap.size w w' := by
  go_enter Try.func9, Try.ntmps9
  go_wp2_with fail
  refine (front_lit ⟨#[97, 98, 99]⟩ ⟨#[98, 98, 99, 97]⟩ [1, 0, 2, 2] 0 (by decide) (by decide) (by decide) (by decide) _).mono ?_
  rintro e w1 ⟨p1, c1, rfl, s1, b1⟩
  have z1 := b1.size
  have S1 := Lib.hid s1
  clear s1
  go_wp2_with fail
  refine (back_lit ⟨#[97, 98, 99]⟩ _ _ _ [1, 0, 2, 2] rfl [98, 98, 99, 97] 0 (by decide) (by decide) (by decide) (by decide) _ (src_new w1 [1, 0, 2, 2] _)).mono ?_
  rintro e w2 ⟨rfl, b2⟩
  have B2 : Below w.heap.size w w2 := b1.trans (((Below.refl _ _).alloc z1 _).trans (b2.mono (by simp; omega)))
  have z2 := B2.size
  have S2 := Lib.hid ((S1.out.below ((Below.refl _ _).alloc (Nat.le_refl _) (.cells #[.int .i64 1, .int .i64 0, .int .i64 2, .int .i64 2] 3))).below b2)
  clear b1 b2 z1 S1
  go_wp2_with fail
  refine (after_lit ⟨#[97, 98, 99]⟩ ⟨#[98, 98, 99, 97]⟩ [97, 99, 98] 0 (by decide) (by decide) (by decide) (by decide) _).mono ?_
  rintro e w3 ⟨rfl, b3⟩
  have B3 : Below w.heap.size w w3 := B2.trans (b3.mono z2)
  have S3 := Lib.hid (S2.out.below b3)
  have z3 := B3.size
  clear B2 b3 S2 z2
  go_wp2_with fail
  refine (front_lit ⟨#[97, 98, 99]⟩ ⟨#[100]⟩ [] 5 (by decide) (by decide) (by decide) (by decide) _).mono ?_
  rintro e w4 ⟨p4, c4, rfl, _, b4⟩
  have B4 : Below w.heap.size w w4 := B3.trans (b4.mono z3)
  have S4 := Lib.hid (S3.out.below b4)
  have z4 := B4.size
  clear B3 b4 S3 z3
  go_wp2_with fail
  refine (back_lit ⟨#[97, 98, 99]⟩ _ _ _ [3] rfl [] 5 (by decide) (by decide) (by decide) (by decide) _ (src_new w4 [3] _)).mono ?_
  rintro e w5 ⟨rfl, b5⟩
  have B5 : Below w.heap.size w w5 := B4.trans (((Below.refl _ _).alloc z4 _).trans (b5.mono (by simp; omega)))
  have z5 := B5.size
  have S5 := Lib.hid ((S4.out.below ((Below.refl _ _).alloc (Nat.le_refl _) (.cells #[.int .i64 3] 3))).below b5)
  clear B4 b5 z4 S4
  go_wp2_with fail
  refine (after_lit ⟨#[97, 98, 97]⟩ ⟨#[]⟩ [] 1 (by decide) (by decide) (by decide) (by decide) _).mono ?_
  rintro e w6 ⟨rfl, b6⟩
  have B6 : Below w.heap.size w w6 := B5.trans (b6.mono z5)
  have S6 := Lib.hid (S5.out.below b6)
  have z6 := B6.size
  clear B5 b6 S5 z5
  go_wp2_with fail
  refine (ints_any _ _ _ _ _ _ [1, 0, 2, 2] [1, 0, 2, 2] rfl rfl (by decide) (by decide) _ (S6.out.below ((Below.refl _ _).alloc (Nat.le_refl _) _)) (src_new w6 [1, 0, 2, 2] _)).mono ?_
  rintro e w7 ⟨rfl, b7⟩
  rw [show decide (([1, 0, 2, 2] : List Int) = [1, 0, 2, 2]) = true from by decide]
  have B7 : Below w.heap.size w w7 := B6.trans (((Below.refl _ _).alloc z6 _).trans (b7.mono (by simp; omega)))
  have z7 := B7.size
  clear B6 b7 S6 z6
  have e1 : bs [98, 98, 99, 97] = ⟨#[98, 98, 99, 97]⟩ := by unfold bs; rfl
  have e2 : bs [97, 99, 98] = ⟨#[97, 99, 98]⟩ := by unfold bs; rfl
  rw [e1, e2]
  clear e1 e2
  go_wp2_with fail
  refine (right_any ⟨#[97, 98]⟩ (by decide) _).mono ?_
  rintro e w8 ⟨rfl, b8⟩
  rw [show right (⟨#[97, 98]⟩ : ByteArray).data.toList = true from by decide]
  have B8 : Below w.heap.size w w8 := B7.trans (b8.mono z7)
  have z8 := B8.size
  clear B7 b8 z7
  go_wp2_with fail
  refine (right_any ⟨#[97, 97]⟩ (by decide) _).mono ?_
  rintro e w9 ⟨rfl, b9⟩
  rw [show right (⟨#[97, 97]⟩ : ByteArray).data.toList = false from by decide]
  have B9 : Below w.heap.size w w9 := B8.trans (b9.mono z8)
  clear B8 b9 z8
  go_wp2
  go_ret
  exact ⟨rfl, B9⟩
end Front
end Go.Proofs.Ytlanididnlmnhaa
