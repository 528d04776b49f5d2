/- The contract of a shelf's desk (chapter 21). -/
import Derived.Test.YtpkhafijmbgcnaaCDesk
import Derived.Test.YtpkhafijmbgcnaaCRight
namespace Go.Proofs.Ytpkhafijmbgcnaa
namespace Cache
open Go.RowKit
set_option linter.unusedVariables false

theorem put_last (x : Hd) : ∀ l : List Hd, (∀ y ∈ l, y.blk < x.blk) → put x l = l ++ [x]
  | [], _ => rfl
  | y :: r, h => by
    unfold put
    rw [if_pos (h y (by simp)), put_last x r (fun z hz => h z (by simp [hz]))]
    rfl
/-- All blocks are numbers of 64 bits. -/
def Wf (l : List Hd) : Prop := ∀ h ∈ l, -9223372036854775808 ≤ h.blk ∧ h.blk ≤ 9223372036854775807

set_option maxRecDepth 100000 in
set_option maxHeartbeats 2000000 in
theorem of_any (c : Sh) (a : Option Addr) (cap : Nat) (w : World) (hm : c.held.length ≤ 1000) (hr : Rise c.held) (hwf : Wf c.held) (hs : HSrc w a c.held) :
    Calls Try.prog 27 #[sval c a cap] w fun e w' => ∃ b, e = .returned (.map (some b)) ∧ w.heap.size ≤ b ∧ DeskW w' b c.held.length c.held ∧ Below w.heap.size w w' := by
  obtain ⟨room, clock, l⟩ := c
  unfold sval
  simp only at hs hm hr hwf ⊢
  obtain ⟨n, hn⟩ : ∃ n, l.length = n := ⟨_, rfl⟩
  have HS := Lib.hid hs
  have HN := Lib.hid hn
  have HR := Lib.hid hr
  have HWF := Lib.hid hwf
  rw [hn] at hm ⊢
  have hmm := @run_makeMap Try.prog
  clear hs hn hr hwf
  go_enter Try.func27, Try.ntmps27
  go_wp2
  go_loopw [10] (fun i wr => ∃ k : Nat, k ≤ n ∧ i = .int .i64 k ∧ RowKit.Hid (DeskW wr (w.heap.size + 1) k (l.take k)) ∧ RowKit.Hid (Below (w.heap.size + 1) (w.alloc (.cells #[.int .i64 room, .int .i64 clock, .slice a n cap] TS)) wr)) (fun i _ => n - (intOf i).toNat)
  case atStart => exact ⟨0, by omega, rfl, Lib.hid (by have h := DeskW.start (w.alloc (.cells #[.int .i64 room, .int .i64 clock, .slice a n cap] TS)); rw [size_alloc'] at h; exact h), Lib.hid ((Below.refl _ _).alloc (by simp) _)⟩
  case round =>
    obtain ⟨k, hk, rfl, hdk, hb⟩ := hrel
    have hz : w.heap.size + 1 ≤ wr.heap.size := by have h := hb.out.size; rw [size_alloc'] at h; exact h
    by_cases hlt : k < n
    · have hlk : k < l.length := by rw [HN.out]; exact hlt
      have hsrc : HSrc wr a l := HS.out.below (((Below.refl _ _).alloc (Nat.le_refl _) _).trans (hb.out.mono (by omega))) rfl
      obtain ⟨b, off, ha, hbl, e0, e1, e2⟩ := hsrc.at_ k hlk
      subst ha
      obtain ⟨x, hx⟩ : ∃ x, l[k] = x := ⟨_, rfl⟩
      rw [hx] at e0 e1 e2
      have hmem : x ∈ l := by rw [← hx]; exact List.getElem_mem _
      obtain ⟨b1, b2⟩ := HWF.out x hmem
      have hput : put x (l.take k) = l.take (k + 1) := by
        rw [take_snoc l k hlk, hx]
        refine put_last x _ (fun y hy => ?_)
        obtain ⟨i, hi, rfl⟩ := List.mem_take_iff_getElem.1 hy
        rw [← hx]
        exact List.pairwise_iff_getElem.1 HR.out i k (by omega) hlk (by omega)
      obtain ⟨w1, hr1, hd1, ht1⟩ := (hdk.out.alloc (.cells #[.int .i64 x.blk, .int .i64 x.st, .string x.txt] TH)).store x b1 b2 (by omega)
      rw [hput] at hd1
      have hb1 : Below (w.heap.size + 1) (wr.alloc (.cells #[.int .i64 x.blk, .int .i64 x.st, .string x.txt] TH)) w1 := mapTurned_below ht1 (Nat.le_refl _) (by rw [size_alloc']; omega)
      have HD1 := Lib.hid hd1
      have HB1 := Lib.hid hb1
      clear hd1 hb1 ht1 hput hmem hx hsrc
      unfold hval at hr1
      go_wp2_with (at_mapUpdate; refine store_eq rfl _ _ _ 61 rfl rfl rfl rfl hr1 ?_)
      go_roundw
      case rel => exact ⟨k + 1, by omega, by go_num, HD1, Lib.hid ((hb.out.alloc hz _).trans HB1.out)⟩
      case measure => simp [intOf]; omega
    · have hkn : k = n := by omega
      subst hkn
      go_wp2
      go_ret
      refine ⟨_, rfl, by omega, ?_, ((Below.refl _ _).alloc (Nat.le_refl _) _).trans (hb.out.mono (by omega))⟩
      have h := hdk.out
      rwa [List.take_of_length_le (by rw [HN.out]; omega)] at h
end Cache
end Go.Proofs.Ytpkhafijmbgcnaa
