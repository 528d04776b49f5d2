/- The document's Right (chapter 21). -/
import Derived.Test.YtpkhafijmbgcnaaCTake
namespace Go.Proofs.Ytpkhafijmbgcnaa
namespace Cache
open Go.RowKit
set_option linter.unusedVariables false

theorem lastB_pos (l : List Hd) (j : Nat) (h : j < l.length) : lastB l (j + 1) = l[j].blk := lastB_succ l j h
theorem not_seen_all (l : List Hd) (k : Nat) (st : Int) (h : ∀ y ∈ l.take k, y.st ≠ st) : ¬ st ∈ (l.take k).map Hd.st := by
  intro hm
  obtain ⟨y, hy, e⟩ := List.mem_map.1 hm
  exact h y hy e
theorem seen_one (l : List Hd) (k q : Nat) (hq : q < k) (hk : q < l.length) (st : Int) (h : l[q].st = st) : st ∈ (l.take k).map Hd.st :=
  List.mem_map.2 ⟨l[q], List.mem_take_iff_getElem.2 ⟨q, by omega, rfl⟩, h⟩

set_option maxRecDepth 100000 in
set_option maxHeartbeats 4000000 in
theorem rright_any (c : Sh) (a : Option Addr) (cap : Nat) (w : World) (hm : c.held.length ≤ maxLen) (hs : HSrc w a c.held) :
    Calls Try.prog 17 #[sval c a cap] w fun e w' => e = .returned (.bool (right c)) ∧ Below w.heap.size w w' := by
  obtain ⟨room, clock, l⟩ := c
  unfold sval
  simp only at hs hm ⊢
  obtain ⟨n, hn⟩ : ∃ n, l.length = n := ⟨_, rfl⟩
  have HS := Lib.hid hs
  have HN := Lib.hid hn
  rw [hn] at hm ⊢
  unfold maxLen at hm
  clear hs hn
  by_cases hh : 1 ≤ room ∧ room ≤ 64 ∧ 0 ≤ clock ∧ clock ≤ 1099511627776 ∧ (n : Int) ≤ room
  · obtain ⟨h1, h2, h3, h4, h5⟩ := hh
    go_enter Try.func17, Try.ntmps17
    go_wp2
    go_loopw [3] (fun i wr => ∃ k : Nat, k ≤ n ∧ i = .int .i64 k ∧ RowKit.Hid (Pre clock l k) ∧ RowKit.Hid (Below (w.heap.size + 1) (w.alloc (.cells #[.int .i64 room, .int .i64 clock, .slice a n cap] TS)) wr)) (fun i _ => n - (intOf i).toNat)
    case atStart => exact ⟨0, by omega, rfl, Lib.hid (Pre.zero _ _), Lib.hid (Below.refl _ _)⟩
    case round =>
      obtain ⟨k, hk, rfl, hpre, hb⟩ := hrel
      obtain ⟨wo, rfl⟩ : ∃ wo : World, wo = wr := ⟨_, rfl⟩
      have c1 : wo.cell? ⟨w.heap.size, 1, none⟩ = some (.int .i64 clock) := by
        rw [hb.out.cell (p := ⟨w.heap.size, 1, none⟩) (by simp)]; simp
      have c2 : wo.cell? ⟨w.heap.size, 2, none⟩ = some (.slice a n cap) := by
        rw [hb.out.cell (p := ⟨w.heap.size, 2, none⟩) (by simp)]; simp
      have hz : w.heap.size + 1 ≤ wo.heap.size := by have h := hb.out.size; rw [size_alloc'] at h; exact h
      have hbb : Below w.heap.size w wo := ((Below.refl _ _).alloc (Nat.le_refl _) _).trans (hb.out.mono (by omega))
      have HBB := Lib.hid hbb
      clear hbb
      by_cases hlt : k < n
      · have hlk : k < l.length := by rw [HN.out]; exact hlt
        have hsrc : HSrc wo a l := HS.out.below (((Below.refl _ _).alloc (Nat.le_refl _) _).trans (hb.out.mono (by omega))) rfl
        have HSR := Lib.hid hsrc
        obtain ⟨b, off, ha, hbl, e0, e1, e2⟩ := hsrc.at_ k hlk
        subst ha
        obtain ⟨blk, hblk⟩ : ∃ x, l[k].blk = x := ⟨_, rfl⟩
        obtain ⟨st, hst⟩ : ∃ x, l[k].st = x := ⟨_, rfl⟩
        obtain ⟨tx, htx⟩ : ∃ x, l[k].txt = x := ⟨_, rfl⟩
        rw [hblk] at e0
        rw [hst] at e1
        rw [htx] at e2
        have HSC := Lib.hid (Pre.succ clock l k hlk hpre.out)
        have hlb := lastB_bound clock l k hpre.out (by omega)
        obtain ⟨lst, hlst⟩ : ∃ x, lastB l k = x := ⟨_, rfl⟩
        rw [hlst] at hlb
        rw [hlst, hblk, hst] at HSC
        have HBLK := Lib.hid hblk
        have HST := Lib.hid hst
        have HLST := Lib.hid hlst
        clear hblk hst htx hlst hsrc
        have hz1 : w.heap.size < wo.heap.size := hz
        have hz2 : ¬ w.heap.size = wo.heap.size := by omega
        obtain ⟨W0, hW0⟩ : ∃ W0, wo.alloc (.cells #[.int .i64 blk, .int .i64 st, .string tx] TH) = W0 := ⟨_, rfl⟩
        have d0 : W0.cell? ⟨wo.heap.size, 0, none⟩ = some (.int .i64 blk) := by rw [← hW0]; simp
        have d1 : W0.cell? ⟨wo.heap.size, 1, none⟩ = some (.int .i64 st) := by rw [← hW0]; simp
        have g1 : W0.cell? ⟨w.heap.size, 1, none⟩ = some (.int .i64 clock) := by rw [← hW0]; exact cellAl c1 _
        have g2 : W0.cell? ⟨w.heap.size, 2, none⟩ = some (.slice (some ⟨b, off, none⟩) n cap) := by rw [← hW0]; exact cellAl c2 _
        have hbw : Below wo.heap.size wo W0 := by rw [← hW0]; exact (Below.refl _ _).alloc (Nat.le_refl _) _
        have HSW := Lib.hid (HSR.out.below hbw rfl)
        have HB0 := Lib.hid (HBB.out.trans (hbw.mono (by omega)))
        have HBW := Lib.hid (hb.out.trans (hbw.mono (by omega)))
        have no : ∀ w' : World, Below w.heap.size w w' → ¬ (lst < blk ∧ 1 ≤ st ∧ st ≤ clock ∧ ¬ st ∈ (l.take k).map Hd.st) → Ending.returned (.bool false) = .returned (.bool (right ⟨room, clock, l⟩)) ∧ Below w.heap.size w w' := by
          intro w' hw' hno
          exact ⟨ret_bool (right_stop ⟨room, clock, l⟩ (k + 1) (fun h => hno (HSC.out.1 h))).symm, hw'⟩
        have NO := Lib.hid no
        have HW0 := Lib.hid hW0
        clear no hbw
        have hcase : blk < 0 ∨ (0 ≤ blk ∧ (∃ j : Nat, k = j + 1 ∧ W0.cell? ⟨b, off + j * 3, none⟩ = some (.int .i64 lst) ∧ blk ≤ lst)) ∨ (0 ≤ blk ∧ lst < blk ∧ (decide (0 < k) = false ∨ ∃ j : Nat, (k : Int) - 1 = (j : Int) ∧ (j : Int) < (n : Int) ∧ decide (0 < k) = true ∧ W0.cell? ⟨b, off + j * 3, none⟩ = some (.int .i64 lst))) := by
          by_cases s1 : blk < 0
          · exact .inl s1
          · rcases k with _ | j
            · refine .inr (.inr ⟨by omega, ?_, .inl (by simp)⟩)
              have := HLST.out
              rw [lastB_zero] at this; omega
            · have hjl : j < l.length := by omega
              obtain ⟨b', off', ha, hbl', e0', e1', e2'⟩ := HSW.out.at_ j hjl
              injection ha with ha
              injection ha with hb1 hb2
              subst hb1 hb2
              rw [← lastB_pos l j hjl, HLST.out] at e0'
              by_cases s2 : blk ≤ lst
              · exact .inr (.inl ⟨by omega, j, rfl, e0', s2⟩)
              · exact .inr (.inr ⟨by omega, by omega, .inr ⟨j, by omega, by omega, by simp, e0'⟩⟩)
        rcases hcase with s1 | ⟨s1, j, rfl, ej, s2⟩ | ⟨s1, s2, s3⟩
        · have HNO := Lib.hid (fun nq => NO.out _ (below_drewN HB0.out nq) (fun h => by omega))
          go_wp2
          go_quiet (fail)
          go_wp2
          go_ret
          exact HNO.out _
        · have HNO := Lib.hid (fun nq => NO.out _ (below_drewN HB0.out nq) (fun h => by omega))
          have hj2 : j < n := by omega
          have q1 : decide (blk < 0) = false := by simpa using s1
          have q2 : decide ((0 : Int) < (j : Int) + 1) = true := by simp
          have q3 : decide (blk ≤ lst) = true := by simpa using s2
          go_wp2
          go_quiet (fail)
          go_wp2
          go_ret
          exact HNO.out _
        · have q1 : decide (blk < 0) = false := by simpa using s1
          have q3 : decide (blk ≤ lst) = false := by simpa using s2
          by_cases t1 : st < 1
          · have HNO := Lib.hid (fun nq => NO.out _ (below_drewN HB0.out nq) (fun h => by omega))
            rcases s3 with q2 | ⟨j, hkj, hjn, q2, ej⟩
            all_goals
              go_wp2
              go_quiet (fail)
              go_wp2
              go_ret
              exact HNO.out _
          · by_cases t2 : clock < st
            · have HNO := Lib.hid (fun nq => NO.out _ (below_drewN HB0.out nq) (fun h => by omega))
              have q4 : decide (st < 1) = false := by simpa using t1
              rcases s3 with q2 | ⟨j, hkj, hjn, q2, ej⟩
              all_goals
                go_wp2
                go_quiet (fail)
                go_wp2
                go_ret
                exact HNO.out _
            · have q4 : decide (st < 1) = false := by simpa using t1
              have q5 : decide (clock < st) = false := by simpa using t2
              rcases s3 with q2 | ⟨j, hkj, hjn, q2, ej⟩
              all_goals
                go_wp2
                go_quiet (fail)
                clear q2
                try clear ej
                try clear hjn hkj
                clear q1 q3 q4 q5 c1 c2 e0 e1 e2 d0
                obtain ⟨W1, hW1⟩ : ∃ W1, W0.drewN nq = W1 := ⟨_, rfl⟩
                have k1 : W1.cell? ⟨wo.heap.size, 1, none⟩ = some (.int .i64 st) := by rw [← hW1]; exact d1
                have k2 : W1.cell? ⟨w.heap.size, 2, none⟩ = some (.slice (some ⟨b, off, none⟩) n cap) := by rw [← hW1]; exact g2
                have HB1 := Lib.hid (show Below w.heap.size w W1 by rw [← hW1]; exact below_drewN HB0.out nq)
                have HBW1 := Lib.hid (show Below (w.heap.size + 1) (w.alloc (.cells #[.int .i64 room, .int .i64 clock, .slice (some ⟨b, off, none⟩) n cap] TS)) W1 by rw [← hW1]; exact below_drewN HBW.out nq)
                have HSW1 := Lib.hid (show HSrc W1 (some ⟨b, off, none⟩) l from HSW.out.below (show Below W0.heap.size W0 W1 by rw [← hW1]; exact below_drewN (Below.refl _ _) nq) rfl)
                rw [hW1]
                clear hW1 d1 g1 g2
                clear HSW HBW HB0
                go_wp2
                go_loopw [5] (fun v wr => ∃ q : Nat, q ≤ k ∧ v = .int .i64 q ∧ RowKit.Hid (∀ y ∈ l.take q, y.st ≠ st) ∧ ∃ m, wr = W1.drewN m) (fun v _ => k - (intOf v).toNat)
                case atStart => exact ⟨0, by omega, rfl, Lib.hid (fun y hy => by simp at hy), 0, rfl⟩
                case round =>
                  obtain ⟨q, hq, rfl, hall, m, rfl⟩ := hrel
                  by_cases hqk : q < k
                  · have hql : q < l.length := by omega
                    have hqn : q < n := by omega
                    obtain ⟨b', off', ha, hbl', e0, e1, e2⟩ := HSW1.out.at_ q hql
                    injection ha with ha
                    injection ha with hb1 hb2
                    subst hb1 hb2
                    have hone := seen_one l k q hqk hql st
                    obtain ⟨x, hx⟩ : ∃ x, l[q].st = x := ⟨_, rfl⟩
                    rw [hx] at e1 hone
                    have HX := Lib.hid hx
                    have HONE := Lib.hid hone
                    clear hx e0 e2 hone
                    by_cases hxs : x = st
                    · subst hxs
                      have HNO := Lib.hid (fun w' (h : Below w.heap.size w w') => NO.out w' h (fun h => h.2.2.2 (HONE.out rfl)))
                      go_wp2
                      go_quiet (fail)
                      go_wp2
                      go_ret
                      exact HNO.out _ (below_drewN (below_drewN HB1.out _) _)
                    · have hxf : (x == st) = false := by simpa using hxs
                      have hnew : ∀ y ∈ l.take (q + 1), y.st ≠ st := by
                        intro y hy
                        rw [take_snoc l q hql] at hy
                        rcases List.mem_append.1 hy with hy | hy
                        · exact hall.out y hy
                        · rw [List.mem_singleton] at hy; subst hy; rw [HX.out]; exact hxs
                      have HNEW := Lib.hid hnew
                      clear hnew
                      go_wp2
                      go_quiet (fail)
                      go_wp2
                      go_roundw
                      case rel => exact ⟨q + 1, by omega, by go_num, HNEW, _, rfl⟩
                      case measure => simp [intOf]; omega
                  · have hqk2 : q = k := by omega
                    subst hqk2
                    have HPS := Lib.hid (HSC.out.2 ⟨s2, by omega, by omega, not_seen_all l q st hall.out⟩)
                    have HBE := Lib.hid (below_drewN HBW1.out m)
                    go_wp2
                    go_roundw
                    case rel => exact ⟨q + 1, by omega, by go_num, HPS, HBE⟩
                    case measure => simp [intOf]; omega
      · go_wp2
        go_ret
        refine ⟨ret_bool ?_, ?_⟩
        · exact ((right_iff _).2 ⟨h1, h2, h3, h4, by simp only [HN.out]; exact h5, Pre.all clock l k (by rw [HN.out]; omega) hpre.out⟩).symm
        · exact HBB.out
  · have hrf : right ⟨room, clock, l⟩ = false := right_head _ (by simp only [HN.out]; exact hh)
    rw [hrf]
    clear hrf
    have hhh := hh
    clear hh
    go_enter Try.func17, Try.ntmps17
    go_wp2
    all_goals first
      | (exfalso; omega)
      | (go_ret; exact ⟨rfl, (Below.refl _ _).alloc (Nat.le_refl _) _⟩)
end Cache
end Go.Proofs.Ytpkhafijmbgcnaa
