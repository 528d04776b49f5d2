/- Contracts of lists' sums, of pick and of awake. -/
import Derived.Test.YtnkgkgemjledhaaCalls
import Derived.OpenShut
namespace Go.Proofs.Ytnkgkgemjledhaa
namespace Crc
open Go.RowKit
set_option linter.unusedVariables false

def all (l : List (BitVec 32)) : BitVec 32 := l.foldl fold 0#32
/-- A slice's value reads as these numbers. -/
def Row (w : World) (a : Option Addr) (l : List (BitVec 32)) : Prop :=
  l = [] ∨ ∃ b off, a = some ⟨b, off, none⟩ ∧ ∀ i (h : i < l.length), w.cell? ⟨b, off + i, none⟩ = some (.int .u32 (U l[i]))

theorem all_snoc (l : List (BitVec 32)) (k : Nat) (h : k < l.length) : all (l.take (k + 1)) = fold (all (l.take k)) l[k] := by
  unfold all
  rw [List.take_succ_eq_append_getElem h, List.foldl_append]; rfl

set_option maxRecDepth 100000 in
set_option maxHeartbeats 400000 in
theorem all_any (w : World) (a : Option Addr) (len cap : Nat) (l : List (BitVec 32)) (hl : l.length = len) (hm : len ≤ maxLen) (hr : Row w a l) :
    Calls Try.prog 18 #[.slice a len cap] w fun e w' => e = .returned (.int .u32 (U (all l))) ∧ w = w' := by
  unfold maxLen at hm
  have h0 : (0 : Int) = U 0#32 := by unfold U; rfl
  have H0 := Lib.hid h0
  have HL := Lib.hid hl
  have HR := Lib.hid hr
  clear h0 hl hr
  go_enter Try.func18, Try.ntmps18
  go_wp2
  go_loop [2, 7] (fun x i => ∃ k : Nat, k ≤ len ∧ i = .int .i64 k ∧ x = .int .u32 (U (all (l.take k)))) (fun _ i => len - (intOf i).toNat)
  case atStart => exact ⟨0, by omega, rfl, by rw [H0.out]; rfl⟩
  case round =>
    obtain ⟨k, hk, rfl, rfl⟩ := hrel
    have hL := HL.out
    by_cases hlt : k < len
    · have hl2 : k < l.length := by omega
      have hs := all_snoc l k hl2
      have HS := Lib.hid hs
      clear hs
      rcases HR.out with h | ⟨b, off, rfl, hc⟩
      · subst h; simp at hl2
      · have hck := hc k hl2
        clear hc hL
        obtain ⟨X, hX⟩ : ∃ X, X = all (l.take k) := ⟨_, rfl⟩
        obtain ⟨Y, hY⟩ : ∃ Y, Y = l[k] := ⟨_, rfl⟩
        rw [← hX]
        rw [← hY] at hck
        have HX := Lib.hid hX
        have HY := Lib.hid hY
        clear hX hY
        go_wp2_with (go_at_call 14; refine (fold_any _ _ _).mono ?_; rintro e w' ⟨rfl, rfl⟩)
        go_round
        case rel => exact ⟨k + 1, by omega, by go_num, by rw [HS.out, ← HX.out, ← HY.out]⟩
        case measure => simp [intOf]; omega
    · clear hL
      go_wp2
      go_ret
      refine ⟨ret_int ?_, rfl⟩
      rw [List.take_of_length_le (by have := HL.out; omega)]

set_option maxRecDepth 100000 in
set_option maxHeartbeats 400000 in
theorem rall_any (w : World) (a : Option Addr) (len cap : Nat) (l : List (BitVec 32)) (hl : l.length = len) (hm : len ≤ maxLen) (hr : Row w a l) :
    Calls Try.prog 19 #[.slice a len cap] w fun e w' => e = .returned (.int .u32 (U (all l))) ∧ w = w' := by
  unfold maxLen at hm
  have h0 : (0 : Int) = U 0#32 := by unfold U; rfl
  have H0 := Lib.hid h0
  have HL := Lib.hid hl
  have HR := Lib.hid hr
  clear h0 hl hr
  go_enter Try.func19, Try.ntmps19
  go_wp2
  go_loop [3, 4] (fun x i => ∃ k : Nat, k ≤ len ∧ i = .int .i64 k ∧ x = .int .u32 (U (all (l.take k)))) (fun _ i => len - (intOf i).toNat)
  case atStart => exact ⟨0, by omega, rfl, by rw [H0.out]; rfl⟩
  case round =>
    obtain ⟨k, hk, rfl, rfl⟩ := hrel
    have hL := HL.out
    by_cases hlt : k < len
    · have hl2 : k < l.length := by omega
      have hs := all_snoc l k hl2
      have HS := Lib.hid hs
      clear hs
      rcases HR.out with h | ⟨b, off, rfl, hc⟩
      · subst h; simp at hl2
      · have hck := hc k hl2
        clear hc hL
        obtain ⟨X, hX⟩ : ∃ X, X = all (l.take k) := ⟨_, rfl⟩
        obtain ⟨Y, hY⟩ : ∃ Y, Y = l[k] := ⟨_, rfl⟩
        rw [← hX]
        rw [← hY] at hck
        have HX := Lib.hid hX
        have HY := Lib.hid hY
        clear hX hY
        go_wp2_with (go_at_call 15; refine (rfold_any _ _ _).mono ?_; rintro e w' ⟨rfl, rfl⟩)
        go_round
        case rel => exact ⟨k + 1, by omega, by go_num, by rw [HS.out, ← HX.out, ← HY.out]⟩
        case measure => simp [intOf]; omega
    · clear hL
      go_wp2
      go_ret
      refine ⟨ret_int ?_, rfl⟩
      rw [List.take_of_length_le (by have := HL.out; omega)]

theorem Row.below {w w' : World} {a : Option Addr} {l : List (BitVec 32)} (h : Row w a l) (hb : Below w.heap.size w w') : Row w' a l := by
  rcases h with h | ⟨b, off, ha, hc⟩
  · exact .inl h
  · refine .inr ⟨b, off, ha, fun i hi => ?_⟩
    have h1 := hc i hi
    rw [hb.cell (block_lt_of_cell h1), h1]
set_option maxRecDepth 100000 in
set_option maxHeartbeats 400000 in
theorem rsum_any (s : ByteArray) (hs : s.size ≤ maxLen) (w : World) :
    Calls Try.prog 11 #[.string s] w fun e w' => e = .returned (.int .u32 (U (sum s.data.toList))) ∧ w = w' := by
  have h0 : (0 : Int) = U 0#32 := by unfold U; rfl
  go_enter Try.func11, Try.ntmps11
  go_wp2_with fail
  rw [h0]
  refine (rmore_any _ s hs _).mono ?_
  rintro e w1 ⟨rfl, rfl⟩
  go_wp2
  go_ret
  exact ⟨rfl, rfl⟩
theorem addr_add (b off i : Nat) : (⟨b, off, none⟩ : Addr).add i = ⟨b, off + i, none⟩ := by
  unfold Addr.add; split <;> simp_all
/-- A slice of numbers of 32 bits that came in, and each beginning of it. -/
theorem row_of (w : World) (x : Addr) (zs : List Int) (hcell : ∀ i, i < zs.length → w.cell? (x.add i) = some (.int .u32 (zs.getD i 0))) (hwz : ∀ n ∈ zs, (Lit.int .u32 n).wf = true) :
    ∃ l : List (BitVec 32), l.length = zs.length ∧ ∀ m, Row w (some x) (l.take m) := by
  have hU : ∀ n : Int, (Lit.int .u32 n).wf = true → U (BitVec.ofNat 32 n.toNat) = n := by
    intro n hn
    obtain ⟨h0, h1⟩ := bounds_u32 hn
    unfold U
    rw [BitVec.toNat_ofNat, Nat.mod_eq_of_lt (by omega)]; omega
  refine ⟨zs.map fun n => BitVec.ofNat 32 n.toNat, by simp, fun m => ?_⟩
  by_cases hz : zs = []
  · subst hz; left; simp
  · right
    have hpos : 0 < zs.length := List.length_pos_iff.2 hz
    have h0 := hcell 0 hpos
    obtain ⟨b, off, spot⟩ := x
    have hspot : spot = none := by simpa [Addr.add] using World.cell?_spot h0
    subst hspot
    refine ⟨b, off, rfl, fun i hi => ?_⟩
    have hi2 : i < zs.length := by simp at hi; omega
    have h := hcell i hi2
    rw [addr_add] at h
    rw [h, List.getElem_take, List.getElem_map, hU _ (hwz _ (List.getElem_mem hi2))]
    simp [hi2]

/-- Which of n things a raw number speaks of. -/
@[irreducible] def pk (c n : Int) : Int := if c < 0 then -(c + 1) % n else c % n
theorem pk_lo (c n : Int) (h : 1 ≤ n) : 0 ≤ pk c n := by
  unfold pk; split <;> exact Int.emod_nonneg _ (by omega)
theorem pk_hi (c n : Int) (h : 1 ≤ n) : pk c n < n := by
  unfold pk; split <;> exact Int.emod_lt_of_pos _ (by omega)

set_option maxRecDepth 100000 in
set_option maxHeartbeats 400000 in
theorem pick_any (c n : Int) (w : World) (h1 : -9223372036854775808 ≤ c) (h2 : c ≤ 9223372036854775807) (h3 : 1 ≤ n) (h4 : n ≤ 9223372036854775807) :
    Calls Try.prog 20 #[.int .i64 c, .int .i64 n] w fun e w' => e = .returned (.int .i64 (pk c n)) ∧ w = w' := by
  have hpk : pk c n = if c < 0 then -(c + 1) % n else c % n := by unfold pk; rfl
  have HP := Lib.hid hpk
  clear hpk
  have hn : (n == 0) = false := by simp; omega
  by_cases hc : c < 0
  all_goals
    go_enter Try.func20, Try.ntmps20
    go_wp2
    go_ret
    refine ⟨ret_int ?_, rfl⟩
    rw [HP.out]
    first
      | (rw [if_pos hc, ← Int.neg_tmod, Int.tmod_eq_emod_of_nonneg (by omega)])
      | rw [if_neg (by omega)]

theorem fixed : sum [] = 0#32 ∧ sum [49, 50, 51, 52, 53, 54, 55, 56, 57] = 4236843288#32 ∧ fold 2147483648#32 0#32 = 1#32 ∧ unfold 1#32 0#32 = 2147483648#32 ∧
    all [1#32, 2#32] = 0#32 ∧ all [] = 0#32 ∧ more (sum [49, 50, 51, 52]) [53, 54, 55, 56, 57] = 4236843288#32 := by
  decide +kernel

theorem U_num (n : Nat) (c : BitVec 32) (h : c.toNat = n) : U c = (n : Int) := by unfold U; rw [h]
theorem sum_lit (l : List UInt8) (n : Nat) (hl : l.length ≤ 100) (h : (sum l).toNat = n) (w : World) :
    Calls Try.prog 10 #[.string ⟨l.toArray⟩] w fun e w' => e = .returned (.int .u32 (n : Int)) ∧ Below w.heap.size w w' := by
  refine (sum_any ⟨l.toArray⟩ (by show l.toArray.size ≤ _; unfold maxLen; simp; omega) w).mono ?_
  rintro e w' ⟨rfl, hb⟩
  exact ⟨by rw [← U_num n _ h], hb⟩
theorem more_lit (c : BitVec 32) (k : Nat) (hc : c.toNat = k) (l : List UInt8) (n : Nat) (hl : l.length ≤ 100) (h : (more c l).toNat = n) (w : World) :
    Calls Try.prog 12 #[.int .u32 (k : Int), .string ⟨l.toArray⟩] w fun e w' => e = .returned (.int .u32 (n : Int)) ∧ Below w.heap.size w w' := by
  rw [← U_num k c hc]
  refine (more_any c ⟨l.toArray⟩ (by show l.toArray.size ≤ _; unfold maxLen; simp; omega) w).mono ?_
  rintro e w' ⟨rfl, hb⟩
  exact ⟨by rw [← U_num n _ h], hb⟩
theorem fold_lit (a b : BitVec 32) (m k n : Nat) (ha : a.toNat = m) (hb : b.toNat = k) (h : (fold a b).toNat = n) (w : World) :
    Calls Try.prog 14 #[.int .u32 (m : Int), .int .u32 (k : Int)] w fun e w' => e = .returned (.int .u32 (n : Int)) ∧ w = w' := by
  rw [← U_num m a ha, ← U_num k b hb, ← U_num n _ h]
  exact fold_any a b w
theorem unfold_lit (a b : BitVec 32) (m k n : Nat) (ha : a.toNat = m) (hb : b.toNat = k) (h : (unfold a b).toNat = n) (w : World) :
    Calls Try.prog 16 #[.int .u32 (m : Int), .int .u32 (k : Int)] w fun e w' => e = .returned (.int .u32 (n : Int)) ∧ w = w' := by
  rw [← U_num m a ha, ← U_num k b hb, ← U_num n _ h]
  exact unfold_any a b w

theorem all_two (w : World) (t : TypeId) :
    Calls Try.prog 18 #[.slice (some ⟨w.heap.size, 0, none⟩) 2 2] (w.alloc (.cells #[.int .u32 1, .int .u32 2] t)) fun e w' => e = .returned (.int .u32 0) ∧ w.alloc (.cells #[.int .u32 1, .int .u32 2] t) = w' := by
  refine (all_any (w.alloc (.cells #[.int .u32 1, .int .u32 2] t)) _ 2 2 [1#32, 2#32] rfl (by decide) (.inr ⟨_, _, rfl, ?_⟩)).mono ?_
  · intro i h
    have h1 : (1 : Int) = U 1#32 := by unfold U; rfl
    have h2 : (2 : Int) = U 2#32 := by unfold U; rfl
    rw [h1, h2]
    match i, h with
    | 0, _ => simp
    | 1, _ => simp
  · rintro e w' ⟨rfl, rfl⟩
    exact ⟨by rw [U_num 0 _ (by decide +kernel)]; rfl, rfl⟩
theorem all_none (w : World) :
    Calls Try.prog 18 #[.slice none 0 0] w fun e w' => e = .returned (.int .u32 0) ∧ w = w' := by
  refine (all_any w _ 0 0 [] rfl (by decide) (.inl rfl)).mono ?_
  rintro e w' ⟨rfl, rfl⟩
  exact ⟨by rw [U_num 0 _ (by decide +kernel)]; rfl, rfl⟩

set_option maxRecDepth 100000 in
set_option maxHeartbeats 400000 in
theorem awake_any (w : World) :
    Calls Try.prog 9 #[] w fun e w' => e = .returned (.bool true) ∧ Below w.heap.size w w' := by
  go_enter Try.func9, Try.ntmps9
  go_wp2_with fail
  refine (sum_lit [] 0 (by decide) (by decide +kernel) _).mono ?_
  rintro e w1 ⟨rfl, b1⟩
  go_wp2_with fail
  refine (sum_lit [49, 50, 51, 52, 53, 54, 55, 56, 57] 4236843288 (by decide) (by decide +kernel) _).mono ?_
  rintro e w2 ⟨rfl, b2⟩
  go_wp2_with fail
  refine (fold_lit 2147483648#32 0#32 2147483648 0 1 rfl rfl (by decide +kernel) _).mono ?_
  rintro e w3 ⟨rfl, rfl⟩
  go_wp2_with fail
  refine (unfold_lit 1#32 0#32 1 0 2147483648 rfl rfl (by decide +kernel) _).mono ?_
  rintro e w4 ⟨rfl, rfl⟩
  go_wp2_with fail
  refine (all_two _ _).mono ?_
  rintro e w5 ⟨rfl, rfl⟩
  go_wp2_with fail
  refine (all_none _).mono ?_
  rintro e w6 ⟨rfl, rfl⟩
  go_wp2_with fail
  refine (sum_lit [49, 50, 51, 52] 1500134229 (by decide) (by decide +kernel) _).mono ?_
  rintro e w7 ⟨rfl, b7⟩
  go_wp2_with fail
  refine (more_lit 1500134229#32 1500134229 rfl [53, 54, 55, 56, 57] 4236843288 (by decide) (by decide +kernel) _).mono ?_
  rintro e w8 ⟨rfl, b8⟩
  go_wp2
  go_ret
  have s1 := b1.size
  have s2 := b2.size
  have s7 := b7.size
  have s8 := b8.size
  simp at s7
  refine ⟨rfl, b1.trans ((b2.mono s1).trans ((((Below.refl _ _).alloc (by omega) _).trans (b7.mono (by simp; omega))).trans (b8.mono (by omega))))⟩
end Crc
end Go.Proofs.Ytnkgkgemjledhaa
