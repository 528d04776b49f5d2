/- Contracts of the functions of layer 3 (crc) and of its reference. -/
import Derived.Test.YtnkgkgemjledhaaProg
import Derived.Test.YtnkgkgemjledhaaPlain
import Derived.WalkKit
import Derived.WalkLawsBesides
import Derived.WalkSpells
import Derived.Lib.Hide
import Derived.Deep.WholeRow
namespace Go.Proofs.Ytnkgkgemjledhaa
namespace Crc
open Go.RowKit
set_option linter.unusedVariables false

theorem ret_int {k : IntKind} {a b : Int} (h : a = b) : Ending.returned (.int k a) = .returned (.int k b) := by rw [h]

def fold (a b : BitVec 32) : BitVec 32 := rot a ^^^ b
def unfold (a b : BitVec 32) : BitVec 32 := rotr (a ^^^ b)

set_option maxHeartbeats 400000 in
theorem fold_any (a b : BitVec 32) (w : World) :
    Calls Try.prog 14 #[.int .u32 (U a), .int .u32 (U b)] w fun e w' => e = .returned (.int .u32 (U (fold a b))) ∧ w = w' := by
  have ha := U_lo a
  have ha' := U_hi a
  have hb := U_lo b
  have hb' := U_hi b
  go_enter Try.func14, Try.ntmps14
  go_wp2
  go_ret
  exact ⟨ret_int (by rw [U_dbl, U_shr31, U_or, U_xor]; rfl), rfl⟩

set_option maxHeartbeats 400000 in
theorem unfold_any (a b : BitVec 32) (w : World) :
    Calls Try.prog 16 #[.int .u32 (U a), .int .u32 (U b)] w fun e w' => e = .returned (.int .u32 (U (unfold a b))) ∧ w = w' := by
  have ha := U_lo a
  have ha' := U_hi a
  have hb := U_lo b
  have hb' := U_hi b
  go_enter Try.func16, Try.ntmps16
  go_wp2
  go_ret
  exact ⟨ret_int (by rw [U_xor, U_shl31, U_half, U_or]; rfl), rfl⟩

set_option maxHeartbeats 400000 in
theorem rfold_any (a b : BitVec 32) (w : World) :
    Calls Try.prog 15 #[.int .u32 (U a), .int .u32 (U b)] w fun e w' => e = .returned (.int .u32 (U (fold a b))) ∧ w = w' := by
  have ha := U_lo a
  have ha' := U_hi a
  have hb := U_lo b
  have hb' := U_hi b
  by_cases h : 2147483648 ≤ U a
  all_goals
    go_enter Try.func15, Try.ntmps15
    go_wp2
    go_ret
    refine ⟨ret_int ?_, rfl⟩
    unfold fold
    rw [← U_xor]
    congr 1
    rw [U_rot]
    omega

set_option maxHeartbeats 400000 in
theorem runfold_any (a b : BitVec 32) (w : World) :
    Calls Try.prog 17 #[.int .u32 (U a), .int .u32 (U b)] w fun e w' => e = .returned (.int .u32 (U (unfold a b))) ∧ w = w' := by
  have ha := U_lo a
  have ha' := U_hi a
  have hb := U_lo b
  have hb' := U_hi b
  unfold unfold
  have hx := U_xor a b
  generalize a ^^^ b = c at *
  have hc := U_lo c
  have hc' := U_hi c
  by_cases h : U c % (2 : Int) = 1
  all_goals
    have h2 : 0 ≤ U c % (2 : Int) ∧ U c % (2 : Int) < 2 := by omega
    obtain ⟨h21, h22⟩ := h2
    have hr := U_rotr c
    have HR := Lib.hid hr
    clear hr
    first
      | (have h3 : (U c % (2 : Int) == 1) = true := by simpa using h)
      | (have h3 : (U c % (2 : Int) == 1) = false := by simpa using h)
    have H := Lib.hid h
    clear h
    go_enter Try.func17, Try.ntmps17
    go_wp2
    go_ret
    refine ⟨ret_int ?_, rfl⟩
    rw [HR.out]
    have h4 := H.out
    omega

set_option maxHeartbeats 400000 in
theorem up_any (a : BitVec 32) (b : Bool) (n : Int) (hn : n = if b then 1 else 0) (w : World) :
    Calls Try.prog 23 #[.int .u32 (U a), .int .u32 n] w fun e w' => e = .returned (.int .u32 (U (up a b))) ∧ w = w' := by
  have ha := U_lo a
  have ha' := U_hi a
  have ht := U_top a
  have hy := up_yes a b
  have hz := up_no a b
  cases b
  all_goals
    cases hm : a.msb
    all_goals
      rw [hm] at ht hy hz
      have HY := Lib.hid hy
      have HZ := Lib.hid hz
      clear hy hz hm
      first
        | (have hn2 : n = 0 := hn
           subst hn2)
        | (have hn2 : n = 1 := hn
           subst hn2)
      clear hn
      first
        | (have ht2 : U a / (2147483648 : Int) = 0 := ht
           have hb2 : U a < 2147483648 := by omega)
        | (have ht2 : U a / (2147483648 : Int) = 1 := ht
           have hb2 : 2147483648 ≤ U a := by omega)
      clear ht
      go_enter Try.func23, Try.ntmps23
      go_wp2
      go_ret
      refine ⟨ret_int ?_, rfl⟩
      clear ht2
      first
        | (refine (Eq.trans ?_ (HY.out rfl).symm); congr 1 <;> omega)
        | (refine (Eq.trans ?_ (HZ.out rfl).symm); omega)

/-! ### The program's table -/

set_option maxRecDepth 100000 in
set_option maxHeartbeats 400000 in
theorem shifted_any (i : Nat) (hi : i < 256) (w : World) :
    Calls Try.prog 22 #[.int .i64 (i : Int)] w fun e w' => e = .returned (.int .u32 (U (tab i))) ∧ w = w' := by
  go_enter Try.func22, Try.ntmps22
  go_wp2
  go_loop [3, 7] (fun c k => ∃ j : Nat, j ≤ 8 ∧ k = .int .i64 j ∧ c = .int .u32 (U (it j (BitVec.ofNat 32 i <<< 24)))) (fun _ k => 8 - (intOf k).toNat)
  case atStart => exact ⟨0, by omega, rfl, by rw [U_place i hi]; rfl⟩
  case round =>
    obtain ⟨j, hj, rfl, rfl⟩ := hrel
    obtain ⟨X, hX⟩ : ∃ X, X = it j (BitVec.ofNat 32 i <<< 24) := ⟨_, rfl⟩
    rw [← hX]
    have HX := Lib.hid hX
    clear hX
    have hx := U_lo X
    have hx' := U_hi X
    by_cases hlt : j < 8
    · cases hm : X.msb
      all_goals
        have ha := and_top X
        rw [hm] at ha
        have HM := Lib.hid hm
        clear hm
        first
          | (have ha2 : (bits .and .u32 (U X) (2147483648 : Int) == 0) = true := ha)
          | (have ha2 : (bits .and .u32 (U X) (2147483648 : Int) == 0) = false := ha)
        clear ha
        go_wp2
        go_round
        case rel =>
          refine ⟨j + 1, by omega, by go_num, ?_⟩
          rw [it, ← HX.out]
          first
            | rw [← st_no X HM.out]
            | rw [← st_yes X HM.out]
        case measure => simp [intOf]; omega
    · go_wp2
      go_ret
      have hj8 : j = 8 := by omega
      subst hj8
      exact ⟨ret_int (by rw [HX.out]; rfl), rfl⟩

/-- The table, of which the first k places are laid. -/
def cell (k i : Nat) : Value := .int .u32 (if i < k then U (tab i) else 0)
@[irreducible] def cells (k : Nat) : Array Value := ((List.range 256).map (cell k)).toArray
theorem cells_size (k : Nat) : (cells k).size = 256 := by simp [cells]
theorem cells_get (k i : Nat) (h : i < 256) : (cells k)[i]? = some (cell k i) := by
  simp [cells, h]
theorem cells_set (k : Nat) (h : k < 256) : (cells k).setIfInBounds k (.int .u32 (U (tab k))) = cells (k + 1) := by
  apply Array.ext
  · simp [cells]
  · intro i h1 h2
    have h3 : i < 256 := by simpa [cells] using h2
    rw [Array.getElem_setIfInBounds]
    · split
      · subst_vars; simp [cells, cell]
      · simp only [cells, cell, List.getElem_toArray, List.getElem_map, List.getElem_range]
        by_cases h4 : i < k
        · rw [if_pos h4, if_pos (by omega)]
        · rw [if_neg h4, if_neg (by omega)]
    · simpa [cells] using h3
theorem zero_table (w : World) : (zeroValue 40).run Try.prog w = .ok (.agg (cells 0)) w := by
  kernel_rfl

theorem cells_one (k : Nat) : (cells k).all (·.oneCell') = true := by
  rw [Array.all_eq_true]
  intro i hi
  simp [cells, cell, Value.oneCell']
theorem cells_info (k : Nat) : (Try.prog.info? 40).map (·.size) = some (cells k).size := by rw [cells_size]; kernel_rfl

set_option maxRecDepth 100000 in
set_option maxHeartbeats 400000 in
theorem laid_any (w : World) :
    Calls Try.prog 21 #[.func (.func 22) #[] #[]] w fun e w' => e = .returned (.agg (cells 256)) ∧ Below w.heap.size w w' := by
  have hal := zero_table
  go_enter Try.func21, Try.ntmps21
  go_wp2
  go_loopw [4] (fun i wr => ∃ k : Nat, k ≤ 256 ∧ i = .int .i64 k ∧ wr = w.alloc (.cells (cells k) 40)) (fun i _ => 256 - (intOf i).toNat)
  case atStart => exact ⟨0, by omega, rfl, rfl⟩
  case round =>
    obtain ⟨k, hk, rfl, rfl⟩ := hrel
    have hsz := cells_size k
    by_cases hlt : k < 256
    · have hc := cells_get k k hlt
      have hlt' : (k : Int) < 256 := by omega
      go_wp2_with (go_at_call 22; refine (shifted_any k hlt _).mono ?_; rintro e w' ⟨rfl, rfl⟩)
      go_roundw
      case rel => exact ⟨k + 1, by omega, by go_num, by rw [cells_set k hlt]⟩
      case measure => simp [intOf]; omega
    · have hi := cells_info k
      have h1 := cells_one k
      have hl := heap_alloc_last w (.cells (cells k) 40)
      go_wp2_with (first | (refine wpList_load_row rfl 40 _ rfl w.heap.size rfl 40 (cells k) (0, 0) _ hl Try.underlying40 rfl hi ?_) | (refine wpList_store_row rfl 40 _ _ rfl w.heap.size (cells k) rfl rfl 40 (cells k) hl hi rfl h1 ?_; rw [World.setRow_alloc_new]))
      refine bodyPost_ret (v := .agg (cells k)) ?_ rfl ⟨by rw [show k = 256 from by omega], (Below.refl _ _).alloc (Nat.le_refl _) _⟩
      exact results_cell_row rfl _ _ w.heap.size 40 (cells k) (0, 0) _ rfl hl Try.underlying40 rfl hi

/-! ### Texts -/

theorem take_snoc (s : ByteArray) (k : Nat) (h : k < s.size) : s.data.toList.take (k + 1) = s.data.toList.take k ++ [s[k]] := by
  rw [List.take_succ_eq_append_getElem (by simpa using h)]; rfl

set_option maxRecDepth 100000 in
set_option maxHeartbeats 400000 in
theorem more_any (c : BitVec 32) (s : ByteArray) (hs : s.size ≤ maxLen) (w : World) :
    Calls Try.prog 12 #[.int .u32 (U c), .string s] w fun e w' => e = .returned (.int .u32 (U (more c s.data.toList))) ∧ Below w.heap.size w w' := by
  unfold maxLen at hs
  have hal := zero_table
  have hn := U_not
  have hc := U_lo c
  have hc' := U_hi c
  go_enter Try.func12, Try.ntmps12
  go_wp2_with fail
  refine (laid_any _).mono ?_
  rintro e w1 ⟨rfl, hb⟩
  have hl := heap_alloc_last w1 (.cells (cells 0) 40)
  have hi := cells_info 256
  have h1 := cells_one 256
  have hz : (cells 0).size = (cells 256).size := by rw [cells_size, cells_size]
  have HZ := Lib.hid hz
  clear hz
  go_wp2_with (refine wpList_store_row rfl 40 _ _ rfl w1.heap.size (cells 256) rfl rfl 40 (cells 0) hl hi HZ.out h1 ?_; rw [World.setRow_alloc_new])
  go_loop [0, 12] (fun x i => ∃ k : Nat, k ≤ s.size ∧ i = .int .i64 k ∧ x = .int .u32 (U (feeds (~~~ c) (s.data.toList.take k)))) (fun _ i => s.size - (intOf i).toNat)
  case atStart => exact ⟨0, by omega, rfl, rfl⟩
  case round =>
    obtain ⟨k, hk, rfl, rfl⟩ := hrel
    obtain ⟨X, hX⟩ : ∃ X, X = feeds (~~~ c) (s.data.toList.take k) := ⟨_, rfl⟩
    rw [← hX]
    have HX := Lib.hid hX
    clear hX
    have hx := U_lo X
    have hx' := U_hi X
    clear hl hi h1 HZ
    by_cases hlt : k < s.size
    · obtain ⟨j, hj⟩ : ∃ j, j = look X s[k] := ⟨_, rfl⟩
      have hj2 := look_lt X s[k]
      have hb2 := look_bits X s[k]
      have hr := look_tk X s[k]
      rw [← hj] at hj2 hb2 hr
      have HR := Lib.hid hr
      clear hr
      clear hj
      have hcj : (cells 256)[j]? = some (.int .u32 (U (tab j))) := by rw [cells_get 256 j hj2]; unfold cell; rw [if_pos hj2]
      go_wp2
      go_round
      case rel => exact ⟨k + 1, by omega, by go_num, by rw [take_snoc s k hlt, feeds_snoc, ← HX.out, ← HR.out]⟩
      case measure => simp [intOf]; omega
    · go_wp2
      go_ret
      refine ⟨ret_int ?_, hb.alloc hb.size _⟩
      rw [HX.out, List.take_of_length_le (by simp; omega)]
      rfl

set_option maxRecDepth 100000 in
set_option maxHeartbeats 400000 in
theorem sum_any (s : ByteArray) (hs : s.size ≤ maxLen) (w : World) :
    Calls Try.prog 10 #[.string s] w fun e w' => e = .returned (.int .u32 (U (sum s.data.toList))) ∧ Below w.heap.size w w' := by
  have h0 : (0 : Int) = U 0#32 := by unfold U; rfl
  go_enter Try.func10, Try.ntmps10
  go_wp2_with fail
  rw [h0]
  refine (more_any _ s hs _).mono ?_
  rintro e w1 ⟨rfl, hb⟩
  go_wp2
  go_ret
  exact ⟨rfl, hb⟩

/-! ### The reference's texts -/

set_option maxRecDepth 100000 in
set_option maxHeartbeats 400000 in
theorem rmore_any (c : BitVec 32) (s : ByteArray) (hs : s.size ≤ maxLen) (w : World) :
    Calls Try.prog 13 #[.int .u32 (U c), .string s] w fun e w' => e = .returned (.int .u32 (U (more c s.data.toList))) ∧ w = w' := by
  unfold maxLen at hs
  have hn := U_not'
  have hc := U_lo c
  have hc' := U_hi c
  go_enter Try.func13, Try.ntmps13
  go_wp2
  go_loop [5, 6] (fun x i => ∃ k : Nat, k ≤ s.size ∧ i = .int .i64 k ∧ x = .int .u32 (U (feeds (~~~ c) (s.data.toList.take k)))) (fun _ i => s.size - (intOf i).toNat)
  case atStart => exact ⟨0, by omega, rfl, rfl⟩
  case round =>
    obtain ⟨k, hk, rfl, rfl⟩ := hrel
    obtain ⟨X, hX⟩ : ∃ X, X = feeds (~~~ c) (s.data.toList.take k) := ⟨_, rfl⟩
    rw [← hX]
    have HX := Lib.hid hX
    clear hX
    by_cases hlt : k < s.size
    · go_wp2
      obtain ⟨wo, rfl⟩ : ∃ wo : World, wo = w := ⟨_, rfl⟩
      go_loop [5, 7] (fun x i => ∃ j : Nat, j ≤ 8 ∧ i = .int .i64 (7 - (j : Int)) ∧ x = .int .u32 (U (feed s[k].toBitVec j X))) (fun _ i => (intOf i + 1).toNat)
      case atStart => exact ⟨0, by omega, rfl, rfl⟩
      case round =>
        obtain ⟨j, hj, rfl, rfl⟩ := hrel
        obtain ⟨Y, hY⟩ : ∃ Y, Y = feed s[k].toBitVec j X := ⟨_, rfl⟩
        rw [← hY]
        have HY := Lib.hid hY
        clear hY
        by_cases hj8 : j < 8
        · have h7 : (0 : Int) ≤ 7 - (j : Int) := by omega
          have h7' : 7 - (j : Int) ≤ 7 := by omega
          go_wp2_with fail
          refine (up_any Y (s[k].toBitVec.getLsbD (7 - j)) _ (bit_int _ _) _).mono ?_
          rintro e w' ⟨rfl, rfl⟩
          go_wp2
          go_round
          case rel => exact ⟨j + 1, by omega, by go_num, by rw [feed, ← HY.out]⟩
          case measure => simp [intOf]; omega
        · go_wp2
          go_round
          case rel => exact ⟨k + 1, by omega, by go_num, by rw [take_snoc s k hlt, feeds_snoc, ← feed_tk, ← HX.out, HY.out, show j = 8 from by omega]⟩
          case measure => simp [intOf]; omega
    · go_wp2
      go_ret
      refine ⟨ret_int ?_, rfl⟩
      rw [HX.out, List.take_of_length_le (by simp; omega)]
      rfl
end Crc
end Go.Proofs.Ytnkgkgemjledhaa
