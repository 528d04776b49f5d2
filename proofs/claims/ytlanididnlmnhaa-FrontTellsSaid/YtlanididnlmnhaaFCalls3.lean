/- Contracts of layer 5 (front), third part: take. -/
import Derived.Test.YtlanididnlmnhaaFCalls2
namespace Go.Proofs.Ytlanididnlmnhaa
namespace Front
open Go.RowKit
open Kit (bval)
set_option linter.unusedVariables false

set_option maxRecDepth 100000 in
set_option maxHeartbeats 800000 in
theorem take_any (w : World) (g n cp : Nat) (l : T) (k : Nat) (hl : l.length = n) (hk : k < n) (hcp : n ≤ cp) (hm : cp ≤ maxLen) (hb : Byt w g l) :
    Calls Try.prog 25 #[.agg #[.slice (some ⟨g, 0, none⟩) n cp], .int .i64 (k : Int)] w fun e w' => e = .returned (.int .u8 ((l.getD k 0).toNat : Int)) ∧ Byt w' g (bring l k) ∧ w.grownBy w' (some g) := by
  unfold maxLen at hm
  have hkl : k < l.length := by omega
  obtain ⟨x, hx⟩ : ∃ x, l.getD k 0 = x := ⟨_, rfl⟩
  have hb2 := hb.below (B := w.heap.size) ((Below.refl _ _).alloc (Nat.le_refl _) (.cells #[.slice (some ⟨g, 0, none⟩) n cp] 45)) hb.1
  have hb3 : Byt (w.alloc (.cells #[.slice (some ⟨g, 0, none⟩) n cp] 45)).drew g l := hb2
  obtain ⟨W, hW⟩ : ∃ W, W = (w.alloc (.cells #[.slice (some ⟨g, 0, none⟩) n cp] 45)).drew := ⟨_, rfl⟩
  rw [← hW] at hb3
  obtain ⟨a, ha, hrun0⟩ := take_run W g n cp l k hl hk hb3 3
  have hrun1 := hrun0 hcp
  clear hrun0
  have HR := Lib.hid hrun1
  have HA := Lib.hid ha
  clear hrun1 ha
  have hck := hb.2.1 k hkl
  have hbr := hb3.brought k hkl
  have hc0 : (W.setCells g 1 ((l.take k).map bval)).cell? ⟨g, 0, none⟩ = some (bval (l.getD 0 0)) := by
    rw [World.cell?_setCells_out g _ 1 W ⟨g, 0, none⟩ (fun _ _ => .inl (by simp)), hb3.2.1 0 (by omega)]
  have hf0 : (W.setCells g 1 ((l.take k).map bval)).frozen? ⟨g, 0, none⟩ = false := by
    rw [World.frozen?_setCells]; exact hb3.2.2 0 (by omega)
  have hq : (W.setCells g 1 ((l.take k).map bval)).cell? ⟨w.heap.size, 0, none⟩ = some (.slice (some ⟨g, 0, none⟩) n cp) := by
    rw [World.cell?_setCells_out g _ 1 W ⟨w.heap.size, 0, none⟩ (fun h _ => by have := hb.1; simp only at h; omega), hW]
    simp
  have hgl := hb.1
  rw [hx] at hck hbr
  have hck2 : w.cell? ⟨g, k, none⟩ = some (.int .u8 (x.toNat : Int)) := hck
  have HB := Lib.hid hbr
  have HX := Lib.hid hx
  have HW := Lib.hid hW
  obtain ⟨V, hV⟩ : ∃ V, V = W.setCells g 1 ((l.take k).map bval) := ⟨_, rfl⟩
  rw [← hV] at hc0 hf0 hq
  have HV := Lib.hid hV
  have HC0 := Lib.hid hc0
  have HF0 := Lib.hid hf0
  have HQ := Lib.hid hq
  clear hb hb2 hb3 hx hck hl hkl hbr hW hV hc0 hf0 hq
  have i1 : (1 : Int) ≤ (n : Int) := by omega
  have i2 : (k : Int) < (n : Int) := by omega
  have i3 : (k : Int) ≤ (cp : Int) := by omega
  have i4 : (n : Int) ≤ (cp : Int) := by omega
  have i5 : (0 : Int) ≤ (k : Int) := by omega
  by_cases hcp1 : cp = 1
  · have hn1 : n = 1 := by omega
    have hk0 : k = 0 := by omega
    subst hcp1 hn1 hk0
    go_enter Try.func25, Try.ntmps25
    go_wp2
    refine wp_region_still_tail 7 (by kernel_rfl) (by kernel_rfl) ?_
    simp only [List.take_succ_cons, List.take_zero, List.drop_succ_cons, List.drop_zero]
    change wpStill _ _ ((w.alloc (.cells #[.slice (some ⟨g, 0, none⟩) 1 _] 45)).drew) _ _ _
    repeat still_step
    try refine wpStill_nil ?_
    have hrun := HR.out
    simp only [HA.out, if_true, HW.out] at hrun
    refine copy_eq rfl (.tmp 13) (.tmp 17) 40 rfl rfl rfl hrun ?_
    have hV2 := HV.out
    rw [HW.out] at hV2
    rw [← hV2]
    clear hrun hV2
    have hc0 := HC0.out
    have hf0 := HF0.out
    have hq := HQ.out
    go_wp2
    go_ret
    refine ⟨by rw [HX.out]; rfl, ?_, ?_⟩
    · rw [HV.out]; exact HB.out
    · rw [HV.out, HW.out]
      exact grown_trans (grown_drew (grown_alloc (grown_refl _ _) _)) (grown_trans (grown_sets g _ 1 _) (grown_set _ g 0 _))
  · go_enter Try.func25, Try.ntmps25
    go_wp2
    refine wp_region_still_tail 7 (by kernel_rfl) (by kernel_rfl) ?_
    simp only [List.take_succ_cons, List.take_zero, List.drop_succ_cons, List.drop_zero]
    change wpStill _ _ ((w.alloc (.cells #[.slice (some ⟨g, 0, none⟩) n _] 45)).drew) _ _ _
    repeat still_step
    try refine wpStill_nil ?_
    have hrun := HR.out
    rw [HA.out, if_neg hcp1, HW.out] at hrun
    refine copy_eq rfl (.tmp 13) (.tmp 17) 40 rfl rfl rfl hrun ?_
    have hV2 := HV.out
    rw [HW.out] at hV2
    rw [← hV2]
    clear hrun hV2
    have hc0 := HC0.out
    have hf0 := HF0.out
    have hq := HQ.out
    go_wp2
    go_ret
    refine ⟨by rw [HX.out]; rfl, ?_, ?_⟩
    · rw [HV.out]; exact HB.out
    · rw [HV.out, HW.out]
      exact grown_trans (grown_drew (grown_alloc (grown_refl _ _) _)) (grown_trans (grown_sets g _ 1 _) (grown_set _ g 0 _))
end Front
end Go.Proofs.Ytlanididnlmnhaa
