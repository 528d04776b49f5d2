/- Contracts of chapter 4's law texts: pick, Runs. -/
import Derived.Test.YthdpcjahficlnaaRCalls5
import Derived.Test.YthdpcjahficlnaaKit
import Derived.Test.YthdpcjahficlnaaReg
namespace Go.Proofs.Ythdpcjahficlnaa
namespace Rle
open Go.RowKit
open Kit (bval)
set_option linter.unusedVariables false

/-- Which of n things a raw number speaks of. -/
@[irreducible] def pk (c n : Int) : Int := if c < 0 then -(c + 1) % n else c % n
theorem pk_lo (c n : Int) (h : 1 ≤ n) : 0 ≤ pk c n := by
  unfold pk; split <;> exact Int.emod_nonneg _ (by omega)
theorem pk_hi (c n : Int) (h : 1 ≤ n) : pk c n < n := by
  unfold pk; split <;> exact Int.emod_lt_of_pos _ (by omega)

set_option maxRecDepth 100000 in
set_option maxHeartbeats 400000 in
theorem pick_any (c n : Int) (w : World) (h1 : -9223372036854775808 ≤ c) (h2 : c ≤ 9223372036854775807) (h3 : 1 ≤ n) (h4 : n ≤ 9223372036854775807) :
    Calls Try.prog 11 #[.int .i64 c, .int .i64 n] w fun e w' => e = .returned (.int .i64 (pk c n)) ∧ w = w' := by
  have hpk : pk c n = if c < 0 then -(c + 1) % n else c % n := by unfold pk; rfl
  have HP := Lib.hid hpk
  clear hpk
  have hn : (n == 0) = false := by simp; omega
  by_cases hc : c < 0
  all_goals
    go_enter Try.func11, Try.ntmps11
    go_wp2
    go_ret
    refine ⟨ret_int ?_, rfl⟩
    rw [HP.out]
    first
      | (rw [if_pos hc, ← Int.neg_tmod, Int.tmod_eq_emod_of_nonneg (by omega)])
      | rw [if_neg (by omega)]
theorem pick_nat (c : Int) (n : Nat) (h1 : -9223372036854775808 ≤ c) (h2 : c ≤ 9223372036854775807) (h3 : 1 ≤ n) (h4 : n ≤ 1000000) (N : Int) (hN : N = (n : Int)) :
    ∃ q : Nat, q < n ∧ ∀ w : World, Calls Try.prog 11 #[.int .i64 c, .int .i64 N] w fun e w' => e = .returned (.int .i64 (q : Int)) ∧ w = w' := by
  subst hN
  obtain ⟨q, hq⟩ := Int.eq_ofNat_of_zero_le (pk_lo c (n : Int) (by omega))
  have hh := pk_hi c (n : Int) (by omega)
  refine ⟨q, by omega, ?_⟩
  rw [← hq]
  exact fun w => pick_any c (n : Int) w h1 h2 (by omega) (by omega)

/-- The six bytes of which runs are made. -/
def rbyte (q : Nat) : UInt8 := ([0, 1, 4, 97, 98, 255] : T).getD q 0
theorem rbyte_at (w : World) (q : Nat) (hq : q < 6) : (w.alloc (.cells #[.int .u8 0, .int .u8 1, .int .u8 4, .int .u8 97, .int .u8 98, .int .u8 255] 5)).cell? ⟨w.heap.size, q, none⟩ = some (.int .u8 ((rbyte q).toNat : Int)) := by
  match q, hq with
  | 0, _ => simp [rbyte]
  | 1, _ => simp [rbyte]
  | 2, _ => simp [rbyte]
  | 3, _ => simp [rbyte]
  | 4, _ => simp [rbyte]
  | 5, _ => simp [rbyte]
/-- What Runs answers: some text, not longer than most. -/
def RunsPost (most : Nat) (w : World) (e : Ending) (w' : World) : Prop := ∃ u : ByteArray, e = .returned (.string u) ∧ u.size ≤ most ∧ Below w.heap.size w w'

set_option maxRecDepth 100000 in
set_option maxHeartbeats 2000000 in
theorem Runs_any (a : Option Addr) (len cap : Nat) (g : Nat → Int × Int) (most : Nat) (hm : most ≤ 1000) (M : Int) (hM : M = (most : Int)) (w : World) (h : Kit.IsPairs .i64 w a len cap g) :
    Calls Try.prog 8 #[.slice a len cap, .int .i64 M] w (RunsPost most w) := by
  subst hM
  obtain ⟨hlc, hcm, hg⟩ := h
  have HG := Lib.hid hg
  unfold maxLen at hcm
  clear hg
  go_enter Try.func8, Try.ntmps8
  go_wp2
  go_loopw [5, 6] (fun o i wr => ∃ (k : Nat) (u : ByteArray), k ≤ len ∧ i = .int .i64 k ∧ o = .string u ∧ u.size ≤ most ∧ Below w.heap.size w wr) (fun _ i _ => len - (intOf i).toNat)
  case atStart => exact ⟨0, ⟨#[]⟩, by omega, rfl, rfl, Nat.zero_le _, Below.refl _ _⟩
  case round =>
    obtain ⟨k, u, hk, rfl, rfl, hu, hb⟩ := hrel
    by_cases hc : k < len ∧ u.size < most
    · obtain ⟨hc1, hc2⟩ := hc
      obtain ⟨b, off, rfl, h0, h1, hw0, hw1⟩ := HG.out k hc1
      obtain ⟨l0, u0⟩ := bounds_i64 hw0
      obtain ⟨l1, u1⟩ := bounds_i64 hw1
      have hbl : b < w.heap.size := block_lt_of_cell h0
      have r0 := hb.cell (p := ⟨b, off + k * 2, none⟩) hbl
      rw [h0] at r0
      have r1 := hb.cell (p := ⟨b, off + k * 2 + 1, none⟩) hbl
      rw [h1] at r1
      obtain ⟨x0, hx0⟩ : ∃ x, (g k).1 = x := ⟨_, rfl⟩
      obtain ⟨x1, hx1⟩ : ∃ x, (g k).2 = x := ⟨_, rfl⟩
      rw [hx0] at l0 u0 r0
      rw [hx1] at l1 u1 r1
      have hz := hb.size
      have hne : b ≠ wr.heap.size := by omega
      have hbz : b < wr.heap.size := by omega
      have hc1r := h1
      rw [hx1] at hc1r
      have HC1 := Lib.hid hc1r
      clear h0 h1 hw0 hw1 hx0 hx1 hc1r
      obtain ⟨q0, hq0, cp0⟩ := pick_nat x0 6 l0 u0 (by omega) (by omega) 6 rfl
      obtain ⟨q1, hq1, cp1⟩ := pick_nat x1 300 l1 u1 (by omega) (by omega) 300 rfl
      have hrb := rbyte_at wr q0 hq0
      obtain ⟨c, hc⟩ : ∃ c, rbyte q0 = c := ⟨_, rfl⟩
      rw [hc] at hrb
      have CP0 := Lib.hid cp0
      have CP1 := Lib.hid cp1
      clear cp0 cp1 hc
      go_wp2_with fail
      refine (CP0.out _).mono ?_
      rintro e w2 ⟨rfl, rfl⟩
      go_wp2
      obtain ⟨wo, hwo⟩ : ∃ wo, wr.alloc (.cells #[.int .u8 0, .int .u8 1, .int .u8 4, .int .u8 97, .int .u8 98, .int .u8 255] 5) = wo := ⟨_, rfl⟩
      rw [hwo]
      have hbo : Below w.heap.size w wo := by rw [← hwo]; exact hb.alloc hz _
      clear hwo hrb r0 r1
      go_loopw [5, 8] (fun o i wr => ∃ (j : Nat) (u : ByteArray), j ≤ 1 + q1 ∧ i = .int .i64 j ∧ o = .string u ∧ u.size ≤ most ∧ Below w.heap.size w wr) (fun _ i _ => 1 + q1 - (intOf i).toNat)
      case atStart => exact ⟨0, u, by omega, rfl, rfl, hu, hbo⟩
      case round =>
        obtain ⟨j, v, hj, rfl, rfl, hv, hbv⟩ := hrel
        have r1 := hbv.cell (p := ⟨b, off + k * 2 + 1, none⟩) hbl
        rw [HC1.out] at r1
        have hzv := hbv.size
        have hcv : (convert 36 9 (.slice (some ⟨wr.heap.size, 0, none⟩) 1 1)).run Try.prog (wr.alloc (.cells #[.int .u8 (c.toNat : Int)] 5)) = .ok (.string ⟨#[c]⟩) (wr.alloc (.cells #[.int .u8 (c.toNat : Int)] 5)) := Kit.Src.text (P := Try.prog) (src := 36) (dst := 9) (e := 5) (n := 1) (c := 1) (l := [c]) (Kit.new_one wr (bval c) 5) rfl Try.underlying36 Try.underlying5 Try.underlying9
        by_cases hc : j < 1 + q1 ∧ v.size < most
        · obtain ⟨hc3, hc4⟩ := hc
          have hi3 : (j : Int) < 1 + (q1 : Int) := by omega
          have hsz1 : (⟨#[c]⟩ : ByteArray).size = 1 := rfl
          have hsz2 : (v ++ ⟨#[c]⟩ : ByteArray).size ≤ most := by rw [ByteArray.size_append]; omega
          have HS2 := Lib.hid hsz2
          clear hsz2
          go_wp2_with fail
          refine (CP1.out _).mono ?_
          rintro e w2 ⟨rfl, rfl⟩
          go_wp2
          go_roundw
          case rel => exact ⟨j + 1, _, by omega, by go_num, rfl, HS2.out, hbv.alloc hzv _⟩
          case measure => simp [intOf]; omega
        · clear hcv
          have hways : ¬ (j : Int) < 1 + (q1 : Int) ∨ ((j : Int) < 1 + (q1 : Int) ∧ ¬ v.size < most) := by
            by_cases h : j < 1 + q1
            · exact .inr ⟨by omega, fun h2 => hc ⟨h, h2⟩⟩
            · exact .inl (by omega)
          clear hc
          rcases hways with h | ⟨h, h'⟩
          all_goals
            go_wp2_with fail
            refine (CP1.out _).mono ?_
            rintro e w2 ⟨rfl, rfl⟩
            go_wp2
            go_roundw
            case rel => exact ⟨k + 1, v, by omega, by go_num, rfl, hv, hbv⟩
            case measure => simp [intOf]; omega
    · have hways : ¬ k < len ∨ (k < len ∧ ¬ u.size < most) := by
        by_cases h : k < len
        · exact .inr ⟨h, fun h2 => hc ⟨h, h2⟩⟩
        · exact .inl h
      clear hc
      rcases hways with h | ⟨h, h'⟩
      all_goals
        go_wp2
        go_ret
        exact ⟨u, rfl, hu, hb⟩
end Rle
end Go.Proofs.Ythdpcjahficlnaa
