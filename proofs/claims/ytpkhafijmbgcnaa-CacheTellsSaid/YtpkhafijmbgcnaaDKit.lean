/- What the laws' texts of chapter 21 share: Ints, Same, pick; a shelf that lies in a cell. -/
import Derived.Test.YtpkhafijmbgcnaaDKeep
import Derived.Test.YtpkhafijmbgcnaaKit
namespace Go.Proofs.Ytpkhafijmbgcnaa
namespace Cache
open Go.RowKit Go.Shelf
set_option linter.unusedVariables false

theorem src_at {w : World} {p : Option Addr} {l : List Int} (h : Kit.Src w p (l.map inum)) (k : Nat) (hk : k < l.length) : ∃ b off, p = some ⟨b, off, none⟩ ∧ b < w.heap.size ∧ w.cell? ⟨b, off + k, none⟩ = some (.int .i64 l[k]) := by
  obtain ⟨b, off, ha, hc⟩ := h k (inum l[k]) (by rw [List.getElem?_map, List.getElem?_eq_getElem hk]; rfl)
  exact ⟨b, off, ha, block_lt_of_cell hc, hc⟩
theorem takeI_snoc_eq {l m : List Int} (k : Nat) (h1 : k < l.length) (h2 : k < m.length) (h : l.take k = m.take k) (e : l[k] = m[k]) : l.take (k + 1) = m.take (k + 1) := by
  rw [List.take_succ_eq_append_getElem h1, List.take_succ_eq_append_getElem h2, h, e]
set_option maxRecDepth 100000 in
set_option maxHeartbeats 1000000 in
theorem ints_any (p q : Option Addr) (c d n m : Nat) (l k : List Int) (hl : l.length = n) (hm : k.length = m) (hn : n ≤ 1000000) (hmm : m ≤ 1000000) (w : World) (h1 : Kit.Src w p (l.map inum)) (h2 : Kit.Src w q (k.map inum)) :
    Calls Try.prog 18 #[.slice p n c, .slice q m d] w fun e w' => e = .returned (.bool (decide (l = k))) ∧ Below w.heap.size w w' := by
  have HL := Lib.hid hl
  have HM := Lib.hid hm
  have H1 := Lib.hid h1
  have H2 := Lib.hid h2
  clear hl hm h1 h2
  by_cases hnm : n = m
  · have hnm2 : ((n : Int) == (m : Int)) = true := by rw [hnm]; simp
    subst hnm
    go_enter Try.func18, Try.ntmps18
    go_wp2
    go_loopw [5] (fun i wr => ∃ j : Nat, j ≤ n ∧ i = .int .i64 j ∧ RowKit.Hid (l.take j = k.take j) ∧ Below w.heap.size w wr) (fun i _ => n - (intOf i).toNat)
    case atStart => exact ⟨0, by omega, rfl, Lib.hid rfl, Below.refl _ _⟩
    case round =>
      obtain ⟨j, hj, rfl, heq, hb⟩ := hrel
      by_cases hlt : j < n
      · have hjl : j < l.length := by rw [HL.out]; exact hlt
        have hjk : j < k.length := by rw [HM.out]; exact hlt
        obtain ⟨b1, o1, rfl, hb1, hc1⟩ := src_at H1.out j hjl
        obtain ⟨b2, o2, rfl, hb2, hc2⟩ := src_at H2.out j hjk
        have hw1 : _ := hb.cell (p := ⟨b1, o1 + j, none⟩) hb1
        have hw2 : _ := hb.cell (p := ⟨b2, o2 + j, none⟩) hb2
        rw [hc1] at hw1
        rw [hc2] at hw2
        obtain ⟨x, hx⟩ : ∃ x, l[j] = x := ⟨_, rfl⟩
        obtain ⟨y, hy⟩ : ∃ y, k[j] = y := ⟨_, rfl⟩
        rw [hx] at hw1
        rw [hy] at hw2
        have HX := Lib.hid hx
        have HY := Lib.hid hy
        clear hx hy hc1 hc2
        by_cases he : x = y
        · have hb2 : (x != y) = false := by simp [he]
          have HE := Lib.hid he
          clear he
          go_wp2
          go_quiet (fail)
          go_wp2
          go_roundw
          case rel => exact ⟨j + 1, by omega, by go_num, Lib.hid (takeI_snoc_eq j hjl hjk heq.out (by rw [HX.out, HY.out, HE.out])), below_drewN hb _⟩
          case measure => simp [intOf]; omega
        · have hb2 : (x != y) = true := by simp [he]
          have hne : ¬ l = k := by
            intro e
            apply he
            rw [← HX.out, ← HY.out]
            subst e
            rfl
          have HE := Lib.hid (decide_eq_false hne)
          clear he hne
          go_wp2
          go_quiet (fail)
          go_wp2
          go_ret
          exact ⟨by rw [HE.out]; rfl, below_drewN hb _⟩
      · have hfull : l.take j = l := List.take_of_length_le (by rw [HL.out]; omega)
        have hfull2 : k.take j = k := List.take_of_length_le (by rw [HM.out]; omega)
        have heq2 : l = k := by rw [← hfull, ← hfull2]; exact heq.out
        have HE := Lib.hid (decide_eq_true heq2)
        clear hfull hfull2 heq2
        go_wp2
        go_ret
        exact ⟨by rw [HE.out]; rfl, hb⟩
  · have hnm2 : ((n : Int) == (m : Int)) = false := by rw [beq_eq_false_iff_ne]; omega
    have hne : ¬ l = k := by intro e; apply hnm; rw [← HL.out, ← HM.out, e]
    have HE := Lib.hid (decide_eq_false hne)
    clear hne
    go_enter Try.func18, Try.ntmps18
    go_wp2
    go_ret
    exact ⟨by rw [HE.out]; rfl, Below.refl _ _⟩
/-- Which of n things a raw number speaks of. -/
@[irreducible] def pk (c n : Int) : Int := if c < 0 then -(c + 1) % n else c % n
theorem pk_lo (c n : Int) (h : 1 ≤ n) : 0 ≤ pk c n := by
  unfold pk; split <;> exact Int.emod_nonneg _ (by omega)
theorem pk_hi (c n : Int) (h : 1 ≤ n) : pk c n < n := by
  unfold pk; split <;> exact Int.emod_lt_of_pos _ (by omega)

set_option maxRecDepth 100000 in
set_option maxHeartbeats 400000 in
theorem pick_any (c n : Int) (w : World) (h1 : -9223372036854775808 ≤ c) (h2 : c ≤ 9223372036854775807) (h3 : 1 ≤ n) (h4 : n ≤ 9223372036854775807) :
    Calls Try.prog 10 #[.int .i64 c, .int .i64 n] w fun e w' => e = .returned (.int .i64 (pk c n)) ∧ w = w' := by
  have hpk : pk c n = if c < 0 then -(c + 1) % n else c % n := by unfold pk; rfl
  have HP := Lib.hid hpk
  clear hpk
  have hn : (n == 0) = false := by simp; omega
  by_cases hc : c < 0
  all_goals
    go_enter Try.func10, Try.ntmps10
    go_wp2
    go_ret
    refine ⟨ret_int ?_, rfl⟩
    rw [HP.out]
    first
      | (rw [if_pos hc, ← Int.neg_tmod, Int.tmod_eq_emod_of_nonneg (by omega)])
      | rw [if_neg (by omega)]
theorem pick_nat (c : Int) (n : Nat) (h1 : -9223372036854775808 ≤ c) (h2 : c ≤ 9223372036854775807) (h3 : 1 ≤ n) (h4 : n ≤ 1000000) (N : Int) (hN : N = (n : Int)) :
    ∃ q : Nat, q < n ∧ ∀ w : World, Calls Try.prog 10 #[.int .i64 c, .int .i64 N] w fun e w' => e = .returned (.int .i64 (q : Int)) ∧ w = w' := by
  subst hN
  obtain ⟨q, hq⟩ := Int.eq_ofNat_of_zero_le (pk_lo c (n : Int) (by omega))
  have hh := pk_hi c (n : Int) (by omega)
  refine ⟨q, by omega, ?_⟩
  rw [← hq]
  exact fun w => pick_any c (n : Int) w h1 h2 (by omega) (by omega)


/-! ### Same, of one shelf twice -/
set_option maxRecDepth 100000 in
set_option maxHeartbeats 1000000 in
theorem same_any (c : Sh) (a b : Option Addr) (ka kb : Nat) (w : World) (hm : c.held.length ≤ 1000000) (h1 : HSrc w a c.held) (h2 : HSrc w b c.held) :
    Calls Try.prog 13 #[sval c a ka, sval c b kb] w fun e w' => e = .returned (.bool true) ∧ Below w.heap.size w w' := by
  obtain ⟨room, clock, l⟩ := c
  unfold sval
  simp only at h1 h2 hm ⊢
  obtain ⟨n, hn⟩ : ∃ n, l.length = n := ⟨_, rfl⟩
  rw [hn] at hm ⊢
  obtain ⟨W0, hW0⟩ : ∃ W0, (w.alloc (.cells #[.int .i64 room, .int .i64 clock, .slice a n ka] TS)).alloc (.cells #[.int .i64 room, .int .i64 clock, .slice b n kb] TS) = W0 := ⟨_, rfl⟩
  have hb0 : Below w.heap.size w W0 := by rw [← hW0]; exact ((Below.refl _ w).alloc (Nat.le_refl _) _).alloc (by rw [size_alloc']; omega) _
  have hg0 : W0.heap[w.heap.size]? = some (.cells #[.int .i64 room, .int .i64 clock, .slice a n ka] TS (0, 0)) := by
    rw [← hW0, Below.heap_alloc _ _ _ (by rw [size_alloc']; omega)]; exact World.alloc_heap_new _ _
  have hg1 : W0.heap[w.heap.size + 1]? = some (.cells #[.int .i64 room, .int .i64 clock, .slice b n kb] TS (0, 0)) := by
    rw [← hW0]
    have h := World.alloc_heap_new (w.alloc (.cells #[.int .i64 room, .int .i64 clock, .slice a n ka] TS)) (.cells #[.int .i64 room, .int .i64 clock, .slice b n kb] TS)
    rwa [size_alloc'] at h
  obtain ⟨x0, x1, x2⟩ := Bx.of hg0
  obtain ⟨y0, y1, y2⟩ := Bx.of hg1
  have H1 := Lib.hid (h1.below hb0 rfl)
  have H2 := Lib.hid (h2.below hb0 rfl)
  have HB := Lib.hid hb0
  have HN := Lib.hid hn
  have q1 : (room != room) = false := by simp
  have q2 : (clock != clock) = false := by simp
  have q3 : ((n : Int) != (n : Int)) = false := by simp
  clear h1 h2 hn hb0 hg0 hg1
  go_enter Try.func13, Try.ntmps13
  go_wp2
  clear hW0
  go_loopw [5] (fun i wr => ∃ j q : Nat, j ≤ n ∧ i = .int .i64 j ∧ wr = W0.drewN q) (fun i _ => n - (intOf i).toNat)
  case atStart => exact ⟨0, 0, by omega, rfl, rfl⟩
  case round =>
    obtain ⟨j, q, hj, rfl, rfl⟩ := hrel
    by_cases hlt : j < n
    · have hjl : j < l.length := by rw [HN.out]; exact hlt
      obtain ⟨b1, o1, ha, hb1, e0, e1, e2⟩ := H1.out.at_ j hjl
      subst ha
      obtain ⟨b2, o2, ha, hb2, f0, f1, f2⟩ := H2.out.at_ j hjl
      subst ha
      obtain ⟨x, hx⟩ : ∃ x, l[j] = x := ⟨_, rfl⟩
      rw [hx] at e0 e1 e2 f0 f1 f2
      obtain ⟨xb, xs, xt⟩ := x
      clear hx
      go_wp2
      go_quiet (fail)
      go_wp2
      go_roundw
      case rel => exact ⟨j + 1, _, by omega, by go_num, rfl⟩
      case measure => simp [intOf]; omega
    · go_wp2
      go_ret
      exact ⟨rfl, below_drewN HB.out q⟩
end Cache
end Go.Proofs.Ytpkhafijmbgcnaa
