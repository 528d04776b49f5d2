/- Contracts of layer 5 (front), ninth part: the document's Front, After, Back, Ints. -/
import Derived.Test.YtlanididnlmnhaaFCalls8
namespace Go.Proofs.Ytlanididnlmnhaa
namespace Front
open Go.RowKit
open Kit (bval)
set_option linter.unusedVariables false

set_option maxRecDepth 100000 in
set_option maxHeartbeats 1000000 in
theorem rfrontF_any (a s : ByteArray) (ha : a.size ≤ 1000) (hs : s.size ≤ 1000) (w : World) :
    Calls Try.prog 16 #[.string a, .string s] w (FrontPost a.data.toList s.data.toList w) := by
  go_enter Try.func16, Try.ntmps16
  go_wp2_with fail
  refine (rtold_any a s ha hs w).mono ?_
  rintro e w1 ⟨p, c, rfl, h2, hb⟩
  have H2 := Lib.hid h2
  clear h2
  go_wp2
  go_ret2
  exact ⟨p, c, rfl, H2.out, hb⟩
set_option maxRecDepth 100000 in
set_option maxHeartbeats 1000000 in
theorem rafter_any (a s : ByteArray) (ha : a.size ≤ 1000) (hs : s.size ≤ 1000) (w : World) :
    Calls Try.prog 18 #[.string a, .string s] w (AfterPost a.data.toList s.data.toList w) := by
  go_enter Try.func18, Try.ntmps18
  go_wp2_with fail
  refine (rtold_any a s ha hs w).mono ?_
  rintro e w1 ⟨p, c, rfl, h2, hb⟩
  have H2 := Lib.hid h2
  clear h2
  go_wp2
  go_ret2
  exact ⟨by rw [bs_eq]; rfl, hb⟩

theorem take_snoc_eq {l m : List Int} (k : Nat) (h1 : k < l.length) (h2 : k < m.length) (h : l.take k = m.take k) (e : l[k] = m[k]) : l.take (k + 1) = m.take (k + 1) := by
  rw [List.take_succ_eq_append_getElem h1, List.take_succ_eq_append_getElem h2, h, e]
set_option maxRecDepth 100000 in
set_option maxHeartbeats 1000000 in
theorem ints_any (p q : Option Addr) (c d n m : Nat) (l k : List Int) (hl : l.length = n) (hm : k.length = m) (hn : n ≤ 1000000) (hmm : m ≤ 1000000) (w : World) (h1 : Kit.Src w p (l.map inum)) (h2 : Kit.Src w q (k.map inum)) :
    Calls Try.prog 19 #[.slice p n c, .slice q m d] w fun e w' => e = .returned (.bool (decide (l = k))) ∧ Below w.heap.size w w' := by
  have HL := Lib.hid hl
  have HM := Lib.hid hm
  have H1 := Lib.hid h1
  have H2 := Lib.hid h2
  clear hl hm h1 h2
  by_cases hnm : n = m
  · have hnm2 : ((n : Int) == (m : Int)) = true := by rw [hnm]; simp
    subst hnm
    go_enter Try.func19, Try.ntmps19
    go_wp2
    go_loopw [5] (fun i wr => ∃ j : Nat, j ≤ n ∧ i = .int .i64 j ∧ RowKit.Hid (l.take j = k.take j) ∧ Below w.heap.size w wr) (fun i _ => n - (intOf i).toNat)
    case atStart => exact ⟨0, by omega, rfl, Lib.hid rfl, Below.refl _ _⟩
    case round =>
      obtain ⟨j, hj, rfl, heq, hb⟩ := hrel
      by_cases hlt : j < n
      · have hjl : j < l.length := by rw [HL.out]; exact hlt
        have hjk : j < k.length := by rw [HM.out]; exact hlt
        obtain ⟨b1, o1, rfl, hb1, hc1⟩ := src_at H1.out j hjl
        obtain ⟨b2, o2, rfl, hb2, hc2⟩ := src_at H2.out j hjk
        have hw1 : _ := hb.cell (p := ⟨b1, o1 + j, none⟩) hb1
        have hw2 : _ := hb.cell (p := ⟨b2, o2 + j, none⟩) hb2
        rw [hc1] at hw1
        rw [hc2] at hw2
        obtain ⟨x, hx⟩ : ∃ x, l[j] = x := ⟨_, rfl⟩
        obtain ⟨y, hy⟩ : ∃ y, k[j] = y := ⟨_, rfl⟩
        rw [hx] at hw1
        rw [hy] at hw2
        have HX := Lib.hid hx
        have HY := Lib.hid hy
        clear hx hy hc1 hc2
        by_cases he : x = y
        · have hb2 : (x != y) = false := by simp [he]
          have HE := Lib.hid he
          clear he
          go_wp2
          go_quiet (fail)
          go_wp2
          go_roundw
          case rel => exact ⟨j + 1, by omega, by go_num, Lib.hid (take_snoc_eq j hjl hjk heq.out (by rw [HX.out, HY.out, HE.out])), below_drewN hb _⟩
          case measure => simp [intOf]; omega
        · have hb2 : (x != y) = true := by simp [he]
          have hne : ¬ l = k := by
            intro e
            apply he
            rw [← HX.out, ← HY.out]
            subst e
            rfl
          have HE := Lib.hid (decide_eq_false hne)
          clear he hne
          go_wp2
          go_quiet (fail)
          go_wp2
          go_ret
          exact ⟨by rw [HE.out]; rfl, below_drewN hb _⟩
      · have hfull : l.take j = l := List.take_of_length_le (by rw [HL.out]; omega)
        have hfull2 : k.take j = k := List.take_of_length_le (by rw [HM.out]; omega)
        have heq2 : l = k := by rw [← hfull, ← hfull2]; exact heq.out
        have HE := Lib.hid (decide_eq_true heq2)
        clear hfull hfull2 heq2
        go_wp2
        go_ret
        exact ⟨by rw [HE.out]; rfl, hb⟩
  · have hnm2 : ((n : Int) == (m : Int)) = false := by rw [beq_eq_false_iff_ne]; omega
    have hne : ¬ l = k := by intro e; apply hnm; rw [← HL.out, ← HM.out, e]
    have HE := Lib.hid (decide_eq_false hne)
    clear hne
    go_enter Try.func19, Try.ntmps19
    go_wp2
    go_ret
    exact ⟨by rw [HE.out]; rfl, Below.refl _ _⟩
end Front
end Go.Proofs.Ytlanididnlmnhaa
