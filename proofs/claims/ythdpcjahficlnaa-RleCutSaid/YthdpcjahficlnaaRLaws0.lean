/- What the walks of chapter 4's laws share: the first calls, whose answers are fixed. -/
import Derived.Test.YthdpcjahficlnaaRCalls6
namespace Go.Proofs.Ythdpcjahficlnaa
namespace Rle
open Go.RowKit
set_option linter.unusedVariables false

/-! ### What is packed, and cut, reckoned -/
def packF : Nat → T → T
  | 0, _ => []
  | n + 1, s => if s = [] then [] else pk1 (s.take (run1 s)) ++ packF n (s.drop (run1 s))
def cutF : Nat → T → Int → Nat
  | 0, _, _ => 0
  | n + 1, s, room => if s = [] then 0 else if (plen (run1 s) : Int) ≤ room then run1 s + cutF n (s.drop (run1 s)) (room - plen (run1 s)) else min (min (max room 0).toNat 3) (run1 s)
theorem packF_eq : ∀ (n : Nat) (s : T), s.length ≤ n → pack s = packF n s
  | 0, s, h => by rw [List.eq_nil_of_length_eq_zero (l := s) (by omega), pack_nil]; rfl
  | n + 1, s, h => by
    by_cases hs : s = []
    · subst hs; rw [pack_nil]; rfl
    · have h1 := run1_pos s hs
      have h2 := List.length_pos_iff.2 hs
      rw [pack_cons s hs, packF, if_neg hs, packF_eq n _ (by rw [List.length_drop]; omega)]
theorem cutF_eq : ∀ (n : Nat) (s : T) (room : Int), s.length ≤ n → cut s room = cutF n s room
  | 0, s, room, h => by rw [List.eq_nil_of_length_eq_zero (l := s) (by omega), cut_nil]; rfl
  | n + 1, s, room, h => by
    by_cases hs : s = []
    · subst hs; rw [cut_nil]; rfl
    · have h1 := run1_pos s hs
      have h2 := List.length_pos_iff.2 hs
      rw [cutF, if_neg hs]
      by_cases hr : (plen (run1 s) : Int) ≤ room
      · rw [cut_fits s room hs hr, if_pos hr, cutF_eq n _ _ (by rw [List.length_drop]; omega)]
      · rw [cut_stops s room hs hr, if_neg hr]

theorem pack_lit (s r : ByteArray) (hs : s.size ≤ 100000) (h : bs (pack s.data.toList) = r) (w : World) :
    Calls Try.prog 9 #[.string s] w fun e w' => e = .returned (.string r) ∧ Below w.heap.size w w' := by subst h; exact Pack_any s hs w
theorem length_lit (s : ByteArray) (n : Int) (hs : s.size ≤ 100000) (h : (Len s.data.toList : Int) = n) (w : World) :
    Calls Try.prog 12 #[.string s] w fun e w' => e = .returned (.int .i64 n) ∧ Below w.heap.size w w' := by subst h; exact Length_any s hs w
theorem cut_lit (s : ByteArray) (room n : Int) (hs : s.size ≤ 100000) (hr1 : -9223372036854775808 ≤ room) (hr2 : room ≤ 9223372036854775807) (h : (cut s.data.toList room : Int) = n) (w : World) :
    Calls Try.prog 13 #[.string s, .int .i64 room] w fun e w' => e = .returned (.int .i64 n) ∧ Below w.heap.size w w' := by subst h; exact Cut_any s room hs hr1 hr2 w
theorem unpack_lit (s : ByteArray) (most : Int) (r : ByteArray) (cd : Int) (hs : s.size ≤ 10000) (hm1 : -9223372036854775808 ≤ most) (hm2 : most ≤ 9223372036854775807) (h1 : bs (resU s.data.toList most) = r) (h2 : codeU s.data.toList most = cd) (w : World) :
    Calls Try.prog 10 #[.string s, .int .i64 most] w fun e w' => e = .returned (.tuple #[.string r, .int .i64 cd]) ∧ Below w.heap.size w w' := by subst h1 h2; exact Unpack_any s most hs hm1 hm2 w

theorem pairs_below {k : IntKind} {w w' : World} {a : Option Addr} {len cap : Nat} {g : Nat → Int × Int} (h : Kit.IsPairs k w a len cap g) (hb : Below w.heap.size w w') : Kit.IsPairs k w' a len cap g := by
  refine ⟨h.1, h.2.1, fun i hi => ?_⟩
  obtain ⟨b, off, ha, h0, h1, k0, k1⟩ := h.2.2 i hi
  exact ⟨b, off, ha, by rw [hb.cell (p := ⟨b, off + i * 2, none⟩) (block_lt_of_cell h0)]; exact h0, by rw [hb.cell (p := ⟨b, off + i * 2 + 1, none⟩) (block_lt_of_cell h1)]; exact h1, k0, k1⟩

set_option maxRecDepth 100000 in
set_option maxHeartbeats 1000000 in
theorem awake_any (w : World) : Calls Try.prog 7 #[] w fun e w' => e = .returned (.bool true) ∧ Below w.heap.size w w' := by
  go_enter Try.func7, Try.ntmps7
  go_wp2_with fail
  refine (unpack_lit ⟨#[97, 97, 97, 97, 2, 98]⟩ 7 ⟨#[97, 97, 97, 97, 97, 97, 98]⟩ 0 (by decide) (by decide) (by decide) (by unfold bs; rfl) (by decide) _).mono ?_
  rintro e w1 ⟨rfl, b1⟩
  have z1 := b1.size
  go_wp2_with fail
  refine (unpack_lit ⟨#[97, 97, 97, 97, 2, 98]⟩ 6 ⟨#[]⟩ 4 (by decide) (by decide) (by decide) (by unfold bs; rfl) (by decide) _).mono ?_
  rintro e w2 ⟨rfl, b2⟩
  have B2 : Below w.heap.size w w2 := b1.trans (b2.mono z1)
  have z2 := B2.size
  clear b1 b2 z1
  go_wp2_with fail
  refine (unpack_lit ⟨#[98, 97, 97, 97, 97]⟩ 9 ⟨#[]⟩ 3 (by decide) (by decide) (by decide) (by unfold bs; rfl) (by decide) _).mono ?_
  rintro e w3 ⟨rfl, b3⟩
  have B3 : Below w.heap.size w w3 := B2.trans (b3.mono z2)
  have z3 := B3.size
  clear B2 b3 z2
  go_wp2_with fail
  refine (pack_lit ⟨#[97, 97, 97, 98]⟩ ⟨#[97, 97, 97, 98]⟩ (by decide) (by rw [packF_eq 4 _ (by decide)]; unfold bs; rfl) _).mono ?_
  rintro e w4 ⟨rfl, b4⟩
  have B4 : Below w.heap.size w w4 := B3.trans (b4.mono z3)
  have z4 := B4.size
  clear B3 b4 z3
  go_wp2_with fail
  refine (pack_lit ⟨#[97, 97, 97, 97]⟩ ⟨#[97, 97, 97, 97, 0]⟩ (by decide) (by rw [packF_eq 4 _ (by decide)]; unfold bs; rfl) _).mono ?_
  rintro e w5 ⟨rfl, b5⟩
  have B5 : Below w.heap.size w w5 := B4.trans (b5.mono z4)
  have z5 := B5.size
  clear B4 b5 z4
  go_wp2_with fail
  refine (pack_lit ⟨#[97, 97, 97, 97, 97, 97]⟩ ⟨#[97, 97, 97, 97, 2]⟩ (by decide) (by rw [packF_eq 6 _ (by decide)]; unfold bs; rfl) _).mono ?_
  rintro e w6 ⟨rfl, b6⟩
  have B6 : Below w.heap.size w w6 := B5.trans (b6.mono z5)
  have z6 := B6.size
  clear B5 b6 z5
  go_wp2_with fail
  refine (length_lit ⟨#[97, 97, 97, 97, 97, 97]⟩ 5 (by decide) (by unfold Len; rw [packF_eq 6 _ (by decide)]; decide) _).mono ?_
  rintro e w7 ⟨rfl, b7⟩
  have B7 : Below w.heap.size w w7 := B6.trans (b7.mono z6)
  have z7 := B7.size
  clear B6 b7 z6
  go_wp2_with fail
  refine (cut_lit ⟨#[97, 97, 97, 97, 97, 97, 98]⟩ 5 6 (by decide) (by decide) (by decide) (by rw [cutF_eq 7 _ _ (by decide)]; decide) _).mono ?_
  rintro e w8 ⟨rfl, b8⟩
  have B8 : Below w.heap.size w w8 := B7.trans (b8.mono z7)
  have z8 := B8.size
  clear B7 b8 z7
  go_wp2_with fail
  refine (cut_lit ⟨#[97, 97, 97, 97, 97, 97, 98]⟩ 4 3 (by decide) (by decide) (by decide) (by rw [cutF_eq 7 _ _ (by decide)]; decide) _).mono ?_
  rintro e w9 ⟨rfl, b9⟩
  have B9 : Below w.heap.size w w9 := B8.trans (b9.mono z8)
  clear B8 b9 z8
  go_wp2
  go_ret
  exact ⟨rfl, B9⟩
end Rle
end Go.Proofs.Ythdpcjahficlnaa
