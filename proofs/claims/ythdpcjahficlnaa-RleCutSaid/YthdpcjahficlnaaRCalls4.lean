/- Contracts of chapter 4's functions: Unpack. -/
import Derived.Test.YthdpcjahficlnaaRCalls3
import Derived.BigQuiet
import Derived.WalkSmall
namespace Go.Proofs.Ythdpcjahficlnaa
namespace Rle
open Go.RowKit
set_option linter.unusedVariables false

theorem byte_bne (x y : UInt8) : ((x.toNat : Int) != (y.toNat : Int)) = decide (¬ x = y) := by
  have := byte_beq x y
  rw [bne, this, Bool.eq_iff_iff]
  simp
theorem take_full {l m : T} {n : Nat} (h : n ≤ l.length) : (l ++ m).take n = l.take n := by rw [List.take_append_of_le_length h]
theorem Bld.drewN {w : World} {B b : Nat} {l : T} (h : Bld w B b l) (n : Nat) : Bld (w.drewN n) B b l :=
  h.kept (row := none) ⟨rfl, rfl, rfl, Nat.le_refl _, fun _ _ _ => rfl⟩ (fun r e => by cases e)
theorem others_drewN {a w : World} {b : Option Nat} (h : Lib.OthersKept TY b a w) (n : Nat) : Lib.OthersKept TY b a (w.drewN n) := h

set_option maxRecDepth 100000 in
set_option maxHeartbeats 1000000 in
theorem told_any (B b k : Nat) (c : UInt8) (n : Nat) (full : T) (most : Int) (lim : Nat) (hlim : (max most 0).toNat + 1 = lim) (W : World) (h : Bld W B b (full.take lim)) (hm : Boxed W k 3 (.int .i64 most)) (hk : k ≠ b) (hB : B ≤ W.heap.size)
    (hn : n ≤ 255) (hf : full.length ≤ 1000000) :
    Calls Try.prog 18 #[.int .u8 (c.toNat : Int), .int .i64 (n : Int), .pointer (some ⟨b, 0, none⟩), .pointer (some ⟨k, 0, none⟩)] W fun e w' =>
      e = .returned (.tuple #[]) ∧ Bld w' B b ((full ++ List.replicate n c).take lim) ∧ Below B W w' ∧ Lib.OthersKept TY (some b) W w' ∧ W.heap.size ≤ w'.heap.size := by
  obtain ⟨mx, hmx⟩ : ∃ mx : Nat, max most 0 = (mx : Int) := Int.eq_ofNat_of_zero_le (by omega)
  have hmx2 : (if (0 : Int) > most then (0 : Int) else most) = (mx : Int) := by rw [← hmx]; split <;> omega
  have hl : lim = mx + 1 := by omega
  have HB := Lib.hid h
  have HM := Lib.hid hm
  have HL := Lib.hid hl
  clear h hm hl hlim
  go_enter Try.func18, Try.ntmps18
  go_wp2
  go_loopw [7] (fun i wr => ∃ j : Nat, j ≤ n ∧ i = .int .i64 j ∧ RowKit.Hid (Bld wr B b ((full ++ List.replicate j c).take lim)) ∧ RowKit.Hid (Below B W wr) ∧ RowKit.Hid (Lib.OthersKept TY (some b) W wr) ∧ W.heap.size ≤ wr.heap.size) (fun i _ => n - (intOf i).toNat)
  case atStart => exact ⟨0, by omega, rfl, by rw [List.replicate_zero, List.append_nil]; exact HB, Lib.hid (Below.refl _ _), Lib.hid (Lib.OthersKept.refl _ _ _), Nat.le_refl _⟩
  case round =>
    obtain ⟨j, hj, rfl, hb, hbel, hok, hz⟩ := hrel
    have hbx : Boxed wr k 3 (.int .i64 most) := (boxed_kept hok.out HM.out hk (by decide)).trans HM.out
    have hcm := hbx.cell
    have hll : ((full ++ List.replicate j c).take lim).length = min lim (full.length + j) := by rw [List.length_take, List.length_append, List.length_replicate]
    obtain ⟨L, hL⟩ : ∃ L, (full ++ List.replicate j c).take lim = L := ⟨_, rfl⟩
    rw [hL] at hb hll
    have HLE := Lib.hid hL
    obtain ⟨ln, hln⟩ : ∃ ln, L.length = ln := ⟨_, rfl⟩
    rw [hln] at hll
    have HLN := Lib.hid hln
    have HLL := Lib.hid hll
    have CL := len_any B b L
    rw [hln] at CL
    have HCL := Lib.hid CL
    clear hL hln hll hbx CL
    by_cases hlt : j < n
    · have hln2 : ln ≤ 1001000 := by have := HLL.out; omega
      by_cases hroom : mx < ln
      · have hd : decide ((mx : Int) < (ln : Int)) = true := by simpa using hroom
        go_wp2
        go_quiet ((go_at_call 19; exact Calls.quiet_of_same (HCL.out _ (hb.out.drewN _))))
        go_wp2
        refine bodyPost_ret (results_none rfl _ _ _) rfl ⟨rfl, ?_, below_drewN hbel.out _, others_drewN hok.out _, hz⟩
        have h1 : lim ≤ full.length + j := by have := HLL.out; have := HL.out; omega
        have e : (full ++ List.replicate n c).take lim = L := by
          rw [← HLE.out]
          have e2 : List.replicate n c = List.replicate j c ++ List.replicate (n - j) c := by rw [List.replicate_append_replicate]; congr 1; omega
          rw [e2, ← List.append_assoc, take_full (by rw [List.length_append, List.length_replicate]; exact h1)]
        rw [e]
        exact hb.out.drewN _
      · have hd : decide ((mx : Int) < (ln : Int)) = false := by simpa using hroom
        go_wp2
        go_quiet ((go_at_call 19; exact Calls.quiet_of_same (HCL.out _ (hb.out.drewN _))))
        have hzq : B ≤ (wr.drewN nq).heap.size := by have := hz; show B ≤ wr.heap.size; omega
        go_wp2_with fail
        refine (writeByte_any B b L c _ (hb.out.drewN nq) (by rw [HLN.out]; omega) hzq).mono ?_
        rintro e w2 ⟨rfl, h2, hb2, hk2, hz2⟩
        have H2 := Lib.hid h2
        clear h2
        go_wp2
        go_roundw
        case rel =>
          refine ⟨j + 1, by omega, by go_num, ?_, Lib.hid ((below_drewN hbel.out nq).trans hb2), Lib.hid ((others_drewN hok.out nq).trans hk2), Nat.le_trans hz hz2⟩
          have h1 : full.length + j < lim := by have := HLL.out; have := HL.out; omega
          have e : (full ++ List.replicate (j + 1) c).take lim = L ++ [c] := by
            rw [← HLE.out, List.replicate_succ', ← List.append_assoc, List.take_of_length_le (by simp; omega), List.take_of_length_le (l := full ++ List.replicate j c) (by simp; omega)]
          rw [e]
          exact H2
        case measure => simp [intOf]; omega
    · obtain rfl : j = n := by omega
      go_wp2
      go_end0
      exact ⟨rfl, by rw [HLE.out]; exact hb.out, hbel.out, hok.out, hz⟩
end Rle
end Go.Proofs.Ythdpcjahficlnaa
