/- Contracts of the functions of layer 5 (front), of its reference, and of what its laws are made of. -/
import Derived.Test.YtlanididnlmnhaaProg
import Derived.Test.YtlanididnlmnhaaFPlain
import Derived.Test.YtlanididnlmnhaaReg
import Derived.WalkKit
import Derived.WalkLawsBesides
import Derived.WalkSpells
import Derived.Lib.Hide
import Derived.Deep.WholeRow
import Derived.BigRegion
import Derived.Deep.RegionLaw
import Derived.Lib.BytesEntry
namespace Go.Proofs.Ytlanididnlmnhaa
namespace Front
open Go.RowKit
set_option linter.unusedVariables false

theorem ret_int {k : IntKind} {a b : Int} (h : a = b) : Ending.returned (.int k a) = .returned (.int k b) := by rw [h]
theorem ret_bool {a b : Bool} (h : a = b) : Ending.returned (.bool a) = .returned (.bool b) := by rw [h]
theorem byte_beq (x y : UInt8) : ((x.toNat : Int) == (y.toNat : Int)) = decide (x = y) := by
  rw [Bool.eq_iff_iff, beq_iff_eq, decide_eq_true_eq]
  exact ⟨fun h => UInt8.toNat_inj.1 (by omega), fun h => by rw [h]⟩
theorem len_text (s : ByteArray) : s.data.toList.length = s.size := by simp
theorem get_text (s : ByteArray) (k : Nat) (h : k < s.size) : s.data.toList[k]'(by rw [len_text]; exact h) = s[k] := rfl

set_option maxRecDepth 100000 in
set_option maxHeartbeats 400000 in
theorem place_any (s : ByteArray) (c : UInt8) (hs : s.size ≤ maxLen) (w : World) :
    Calls Try.prog 22 #[.string s, .int .u8 (c.toNat : Int)] w fun e w' => e = .returned (.int .i64 (plcI s.data.toList c)) ∧ w = w' := by
  unfold maxLen at hs
  go_enter Try.func22, Try.ntmps22
  go_wp2
  go_loop [5] (fun i => ∃ k : Nat, k ≤ s.size ∧ i = .int .i64 k ∧ ¬ c ∈ s.data.toList.take k) (fun i => s.size - (intOf i).toNat)
  case atStart => exact ⟨0, by omega, rfl, by simp⟩
  case round =>
    obtain ⟨k, hk, rfl, hno⟩ := hrel
    have HNO := Lib.hid hno
    clear hno
    by_cases hlt : k < s.size
    · have hb := byte_beq s[k] c
      by_cases he : s[k] = c
      · rw [decide_eq_true he] at hb
        have HE := Lib.hid he
        clear he
        go_wp2
        go_ret
        exact ⟨ret_int (plcI_at _ c k (by rw [len_text]; exact hlt) HNO.out HE.out).symm, rfl⟩
      · rw [decide_eq_false he] at hb
        have HE := Lib.hid he
        clear he
        go_wp2
        go_round
        case rel =>
          refine ⟨k + 1, by omega, by go_num, ?_⟩
          rw [mem_take_succ _ c k (by rw [len_text]; exact hlt)]
          rintro (h | h)
          · exact HNO.out h
          · exact HE.out h.symm
        case measure => simp [intOf]; omega
    · go_wp2
      go_ret
      refine ⟨ret_int ?_, rfl⟩
      have h := HNO.out
      rw [List.take_of_length_le (by rw [len_text]; omega)] at h
      unfold plcI; rw [if_neg h]

set_option maxRecDepth 100000 in
set_option maxHeartbeats 400000 in
theorem rright_any (s : ByteArray) (hs : s.size ≤ maxLen) (w : World) :
    Calls Try.prog 13 #[.string s] w fun e w' => e = .returned (.bool (right s.data.toList)) ∧ w = w' := by
  have hs0 := hs
  have HS := Lib.hid hs0
  clear hs0
  unfold maxLen at hs
  go_enter Try.func13, Try.ntmps13
  go_wp2
  go_loop [3] (fun i => ∃ k : Nat, k ≤ s.size ∧ i = .int .i64 k ∧ (s.data.toList.take k).Nodup) (fun i => s.size - (intOf i).toNat)
  case atStart => exact ⟨0, by omega, rfl, by simp⟩
  case round =>
    obtain ⟨k, hk, rfl, hno⟩ := hrel
    have HNO := Lib.hid hno
    clear hno
    by_cases hlt : k < s.size
    · have hkl : k < s.data.toList.length := by rw [len_text]; exact hlt
      have hp := plcI_lt s.data.toList k hkl
      rw [get_text s k hlt] at hp
      obtain ⟨p, hpe⟩ : ∃ p, plcI s.data.toList s[k] = p := ⟨_, rfl⟩
      rw [hpe] at hp
      by_cases he : p < (k : Int)
      · have HP := Lib.hid (hp.1 he)
        clear hp
        go_wp2_with (go_at_call 22; refine (place_any _ _ HS.out _).mono ?_; rintro e w' ⟨rfl, rfl⟩)
        go_ret
        exact ⟨ret_bool (right_false _ k (by rw [len_text]; exact hlt) HP.out).symm, rfl⟩
      · have HP := Lib.hid (fun h => he (hp.2 h))
        clear hp
        go_wp2_with (go_at_call 22; refine (place_any _ _ HS.out _).mono ?_; rintro e w' ⟨rfl, rfl⟩)
        go_round
        case rel => exact ⟨k + 1, by omega, by go_num, (nodup_take_succ _ k (by rw [len_text]; exact hlt)).2 ⟨HNO.out, HP.out⟩⟩
        case measure => simp [intOf]; omega
    · go_wp2
      go_ret
      refine ⟨ret_bool ?_, rfl⟩
      have h := HNO.out
      rw [List.take_of_length_le (by rw [len_text]; omega)] at h
      exact ((right_iff _).2 h).symm

/-! ### The program's Right -/
@[irreducible] def had (l : T) (i : Nat) : Value := .bool (decide (UInt8.ofNat i ∈ l))
@[irreducible] def hads (l : T) : Array Value := ((List.range 256).map (had l)).toArray
theorem hads_size (l : T) : (hads l).size = 256 := by simp [hads]
theorem hads_get (l : T) (x : UInt8) : (hads l)[x.toNat]? = some (.bool (decide (x ∈ l))) := by
  have := x.toNat_lt
  have h : x.toNat < 256 := by omega
  simp [hads, had, h]
theorem hads_set (l : T) (x : UInt8) : (hads l).setIfInBounds x.toNat (.bool true) = hads (l ++ [x]) := by
  apply Array.ext
  · simp [hads]
  · intro i h1 h2
    have h3 : i < 256 := by simpa [hads] using h2
    rw [Array.getElem_setIfInBounds]
    · split
      · rename_i h; subst h; simp [hads, had]
      · rename_i h
        have hne : ¬ UInt8.ofNat i = x := by
          intro e; apply h; rw [← e]; simp; omega
        simp [hads, had, hne]
    · simpa [hads] using h3
theorem zero_hads (w : World) : (zeroValue 42).run Try.prog w = .ok (.agg (hads [])) w := by
  kernel_rfl

set_option maxRecDepth 100000 in
set_option maxHeartbeats 400000 in
theorem right_any (s : ByteArray) (hs : s.size ≤ maxLen) (w : World) :
    Calls Try.prog 12 #[.string s] w fun e w' => e = .returned (.bool (right s.data.toList)) ∧ Below w.heap.size w w' := by
  unfold maxLen at hs
  have hz := zero_hads
  go_enter Try.func12, Try.ntmps12
  go_wp2
  go_loopw [7] (fun i wr => ∃ k : Nat, k ≤ s.size ∧ i = .int .i64 k ∧ wr = w.alloc (.cells (hads (s.data.toList.take k)) 42) ∧ (s.data.toList.take k).Nodup) (fun i _ => s.size - (intOf i).toNat)
  case atStart => exact ⟨0, by omega, rfl, rfl, by simp⟩
  case round =>
    obtain ⟨k, hk, rfl, rfl, hno⟩ := hrel
    have HNO := Lib.hid hno
    clear hno
    by_cases hlt : k < s.size
    · have hg := hads_get (s.data.toList.take k) s[k]
      have hsz := hads_size (s.data.toList.take k)
      have hb1 : (s[k].toNat : Int) < 256 := by have := s[k].toNat_lt; omega
      have hb0 : (0 : Int) ≤ (s[k].toNat : Int) := by omega
      by_cases he : s[k] ∈ s.data.toList.take k
      · rw [decide_eq_true he] at hg
        have HE := Lib.hid he
        clear he
        go_wp2
        go_ret
        exact ⟨ret_bool (right_false _ k (by rw [len_text]; exact hlt) HE.out).symm, (Below.refl _ _).alloc (Nat.le_refl _) _⟩
      · rw [decide_eq_false he] at hg
        have HE := Lib.hid he
        clear he
        go_wp2
        go_roundw
        case rel =>
          refine ⟨k + 1, by omega, by go_num, ?_, (nodup_take_succ _ k (by rw [len_text]; exact hlt)).2 ⟨HNO.out, HE.out⟩⟩
          rw [hads_set, List.take_succ_eq_append_getElem (by rw [len_text]; exact hlt)]; rfl
        case measure => simp [intOf]; omega
    · go_wp2
      go_ret
      refine ⟨ret_bool ?_, (Below.refl _ _).alloc (Nat.le_refl _) _⟩
      have h := HNO.out
      rw [List.take_of_length_le (by rw [len_text]; omega)] at h
      exact ((right_iff _).2 h).symm
end Front
end Go.Proofs.Ytlanididnlmnhaa
