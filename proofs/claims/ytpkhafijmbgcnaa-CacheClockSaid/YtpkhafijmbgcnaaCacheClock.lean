/-
  The law CacheClock of chapter 21 returns true: each use is counted, and nothing else; blocks stand in order, each once, and by their stamps as Order tells.
  For every input: no condition.
-/
import Derived.Test.YtpkhafijmbgcnaaRows
import Derived.Test.YtpkhafijmbgcnaaDLaw2
import Derived.Test.YtpkhafijmbgcnaaCPlainB
import Derived.WalkLawsBesides
import Derived.WalkSpells
import Derived.Lib.Hide
import Derived.BigQuiet
import Derived.WalkKit
import Derived.ProofKit
import Derived.OpenShut
import Derived.ShutString
import Derived.ChangeOld
import Derived.Below
import Derived.Test.YtpkhafijmbgcnaaKit
namespace Go.Proofs.Ytpkhafijmbgcnaa.cacheClock
set_option linter.unusedVariables false
open Go.RowKit
open Cache Go.Shelf
open Go.ChangeShapes Go.WideShapes Go.ChangeAt Go.RowKit
open Go.ChangeMaps (open_string shut_string)

theorem own : ownKnob Try.prog.godebug = none := by kernel_rfl
theorem laidOut : laidOutB Try.prog = true := by kernel_rfl

/-- What the loop holds of its world. -/
def ClockAt (m : Nat) (w : World) (Bc : Nat) (wr : World) : Prop := ∃ c a k, CellSh wr Bc c a k ∧ Small c m ∧ Below w.heap.size w wr
/-- The three ways of a use. -/
inductive Used (c c' : Sh) (b : Int) (t : Nat) : Prop
  | take (s : ByteArray) (h0 : t = 0) (h : take c b = (s, c', 0))
  | none (s : ByteArray) (z : Sh) (h0 : t = 0) (h : take c b = (s, z, 5)) (h1 : c' = c)
  | keep (g : Int) (h0 : t = 1) (h : keep c b ⟨#[120]⟩ = (g, c', 0))
set_option maxRecDepth 100000 in
set_option maxHeartbeats 4000000 in
theorem walk (a0 : Int) (a1 : Option Addr) (len1 cap1 : Nat) (z1 : Nat → Int × Int) (a2 : Option Addr) (len2 cap2 : Nat) (z2 : Nat → Int × Int) (w : World) (w0 : (Lit.int .i64 a0).wf = true) (w1 : Kit.IsPairs .i64 w a1 len1 cap1 z1) (w2 : Kit.IsPairs .i64 w a2 len2 cap2 z2) :
    Calls Try.prog 7 #[.int .i64 a0, .slice a1 len1 cap1, .slice a2 len2 cap2] w fun e w' => e = .returned (.bool true) ∧ Below w.heap.size w w' := by
  have HPR := Lib.hid w1
  have HPS := Lib.hid w2
  obtain ⟨l0, u0⟩ := bounds_i64 w0
  have hlm : len2 ≤ maxLen := Nat.le_trans w2.1 w2.2.1
  unfold maxLen at hlm
  clear w0 w1 w2
  go_enter Try.func7, Try.ntmps7
  go_wp2_with fail
  refine (awake_any _).mono ?_
  rintro e w1 ⟨rfl, b1⟩
  have BL0 := Lib.hid b1
  have HPR1 := Lib.hid (pairs_below HPR.out b1)
  clear b1
  go_wp2_with fail
  have hsl := Lib.hid (Shelf_lit a0 a1 len1 cap1 z1 l0 u0 w1 HPR1.out)
  (with_reducible refine hsl.out.mono ?_)
  clear hsl
  rintro e w2 ⟨c, ac, kc, rfl, s2, hsm, b2⟩
  have HSM0 := Lib.hid hsm
  clear hsm
  have Cc2 := Lib.hid (CellSh.new s2)
  have BL2 := Lib.hid ((BL0.out.trans (b2.mono BL0.out.size)).alloc (Nat.le_trans BL0.out.size b2.size) (.cells #[.int .i64 c.room, .int .i64 c.clock, .slice ac c.held.length kc] TS))
  have zz2 := Nat.le_trans BL0.out.size b2.size
  obtain ⟨Bc, hc⟩ : ∃ B, w2.heap.size = B := ⟨_, rfl⟩
  rw [hc] at Cc2 zz2
  obtain ⟨V2, hV2⟩ : ∃ V, w2.alloc (.cells #[.int .i64 c.room, .int .i64 c.clock, .slice ac c.held.length kc] TS) = V := ⟨_, rfl⟩
  rw [hV2] at BL2 Cc2
  have HAT := Lib.hid (show ClockAt 30 w Bc V2 from ⟨c, ac, kc, Cc2.out, HSM0.out, BL2.out⟩)
  clear s2 b2
  obtain ⟨xc0, xc1, xc2, fc0, fc1, fc2⟩ := Cc2.out.cells
  go_wp2
  clear hV2 hc
  clear xc0 xc1 xc2 fc0 fc1 fc2
  clear Cc2 BL2 HSM0
  go_loopw [9] (fun i wr => ∃ j : Nat, j ≤ len2 ∧ j ≤ 40 ∧ i = .int .i64 j ∧ RowKit.Hid (ClockAt (30 + j) w Bc wr)) (fun i _ => len2 - (intOf i).toNat)
  case atStart => exact ⟨0, by omega, by omega, rfl, HAT⟩
  case round =>
    obtain ⟨j, hj, hj40, rfl, hat⟩ := hrel
    obtain ⟨c, ac, kc, hcc, hsm, hb⟩ := hat.out
    have CC := Lib.hid hcc
    have HSM := Lib.hid hsm
    have BL := Lib.hid hb
    have zr := hb.size
    have lc := hcc.lt
    clear hcc hsm hb hat HAT
    obtain ⟨xc0, xc1, xc2, fc0, fc1, fc2⟩ := CC.out.cells
    by_cases hc : j < len2 ∧ j < 40
    · obtain ⟨hc1, hc2⟩ := hc
      obtain ⟨b0, off, ha, g0, g1, k0w, k1w⟩ := HPS.out.2.2 j hc1
      subst ha
      obtain ⟨u, hu⟩ : ∃ u, (z2 j).1 = u := ⟨_, rfl⟩
      obtain ⟨v, hv⟩ : ∃ v, (z2 j).2 = v := ⟨_, rfl⟩
      rw [hu] at g0 k0w
      rw [hv] at g1 k1w
      have hbl : b0 < w.heap.size := block_lt_of_cell g0
      have y0 : wr.cell? ⟨b0, off + j * 2, none⟩ = some (.int .i64 u) := by rw [BL.out.cell (p := ⟨b0, off + j * 2, none⟩) hbl]; exact g0
      have y1 : wr.cell? ⟨b0, off + j * 2 + 1, none⟩ = some (.int .i64 v) := by rw [BL.out.cell (p := ⟨b0, off + j * 2 + 1, none⟩) hbl]; exact g1
      obtain ⟨u1, u2⟩ := bounds_i64 k0w
      obtain ⟨v1, v2⟩ := bounds_i64 k1w
      obtain ⟨q, hq, hpq⟩ := pick_nat v 8 v1 v2 (by omega) (by omega) 8 rfl
      obtain ⟨t, ht, hpt⟩ := pick_nat u 2 u1 u2 (by omega) (by omega) 2 rfl
      have HPQ := Lib.hid hpq
      have HPT := Lib.hid hpt
      clear hu hv g0 g1 k0w k1w u1 u2 v1 v2 hpq hpt
      obtain ⟨V1, hV1⟩ : ∃ V, wr.alloc (.cells #[.int .i64 c.room, .int .i64 c.clock, .slice ac c.held.length kc] TS) = V := ⟨_, rfl⟩
      obtain ⟨Bd, hd⟩ : ∃ B, wr.heap.size = B := ⟨_, rfl⟩
      have hbv : Below wr.heap.size wr V1 := by rw [← hV1]; exact (Below.refl _ _).alloc (Nat.le_refl _) _
      have CD1 := Lib.hid (show CellSh V1 Bd c ac kc by rw [← hV1, ← hd]; exact CellSh.new CC.out.sh)
      have CC1 := Lib.hid (CC.out.below hbv rfl)
      have BL1 := Lib.hid (BL.out.trans (hbv.mono zr))
      have y0' : V1.cell? ⟨b0, off + j * 2, none⟩ = some (.int .i64 u) := by rw [hbv.cell (p := ⟨b0, off + j * 2, none⟩) (by show b0 < _; omega)]; exact y0
      have ncd : ¬ Bc = Bd := by omega
      have ndc : ¬ Bd = Bc := by omega
      have hwd : w.heap.size ≤ Bd := by omega
      have hq0 : (0 : Int) ≤ (q : Int) := by omega
      have hq8 : (q : Int) ≤ 7 := by omega
      have hcl0 := HSM.out.1.2.2.1
      have hcl1 : c.clock ≤ 100 := by have := HSM.out.2.2.1; omega
      have hcw : IntKind.i64.wrap (c.clock + 1) = c.clock + 1 := IntWalk.i64_in _ ⟨by omega, by omega⟩
      have LC := Lib.hid (show c.held.length ≤ 1000000 by have := HSM.out.len; omega)
      have HCW := Lib.hid hcw
      clear hbv hcw
      go_wp2_with fail
      refine (HPQ.out _).mono ?_
      rintro e w9 ⟨rfl, rfl⟩
      go_wp2_with fail
      clear hV1 hd y0 y1 xc0 xc1 xc2 fc0 fc1 fc2
      refine (HPT.out _).mono ?_
      rintro e w9 ⟨rfl, rfl⟩
      have hcase : t = 0 ∨ t = 1 := by omega
      rcases hcase with rfl | rfl

      · rcases use_take HSM.out (by omega) q hq with ⟨s9, c', h, hs, hk, hr, r, ho⟩ | ⟨s9, c', h⟩
        · skip
          have HT := Lib.hid h
          have HSN := Lib.hid hs
          have HKC := Lib.hid hk
          have HRM := Lib.hid hr
          have HOR := Lib.hid ho
          have LN := Lib.hid (show c'.held.length ≤ 1000000 by have := hs.len; omega)
          clear h hs hk hr ho
          obtain ⟨xc0, xc1, xc2, fc0, fc1, fc2⟩ := CC1.out.cells
          go_wp2_with fail
          clear xc0 xc1 xc2 fc0 fc1 fc2
          have hqp1 := Lib.hid (take_lit c ac kc (q : Int) HT.out V1 LC.out CC1.out.sh (by omega) (by omega))
          (with_reducible refine hqp1.out.mono ?_)
          clear hqp1
          rintro e wp1 ⟨ap1, kp1, rfl, sp1, bp1⟩
          have Ecp1 := Lib.hid (CC1.out.below bp1 rfl)
          have Edp1 := Lib.hid (CD1.out.below bp1 rfl)
          have BEp1 := Lib.hid (BL1.out.trans (bp1.mono BL1.out.size))
          have Sp1 := Lib.hid sp1
          clear bp1 sp1
          obtain ⟨xc0, xc1, xc2, fc0, fc1, fc2⟩ := Ecp1.out.cells
          obtain ⟨xd0, xd1, xd2, fd0, fd1, fd2⟩ := Edp1.out.cells
          have Pcp2 := Lib.hid (Edp1.out.far Ecp1.out ncd (.int .i64 c'.room) (.int .i64 c'.clock) (.slice ap1 c'.held.length kp1))
          have Pdp2 := Lib.hid (Edp1.out.set Sp1.out)
          have BPp2 := Lib.hid (Below.put3 (B := Bd) BEp1.out (by omega) (.int .i64 c'.room) (.int .i64 c'.clock) (.slice ap1 c'.held.length kp1))
          have hcw := HCW.out
          have q1 : (c'.clock != c.clock + 1) = false := by rw [HKC.out]; simp
          have q2 : (c'.room != c.room) = false := by rw [HRM.out]; simp
          have Pdp3 := Lib.hid (Pcp2.out.far Pdp2.out ndc (.int .i64 c'.room) (.int .i64 c'.clock) (.slice ap1 c'.held.length kp1))
          have Pcp3 := Lib.hid (Pcp2.out.set Pdp2.out.sh)
          have BPp3 := Lib.hid (Below.put3 (B := Bc) BPp2.out (by omega) (.int .i64 c'.room) (.int .i64 c'.clock) (.slice ap1 c'.held.length kp1))
          go_wp2_with fail
          clear xc0 xc1 xc2 fc0 fc1 fc2 xd0 xd1 xd2 fd0 fd1 fd2
          clear q1 q2 hcw
          have HSX := Lib.hid HSN.out
          have hq := Lib.hid (order_lit c' ap1 kp1 rfl _ LN.out Pcp3.out.sh.src)
          (with_reducible refine hq.out.mono ?_)
          clear hq
          rintro e w6 ⟨ao, ko, rfl, so, b6⟩
          have CE := Lib.hid (Pcp3.out.below b6 rfl)
          have BE := Lib.hid (BPp3.out.trans (b6.mono BPp3.out.size))
          obtain ⟨n, hn⟩ : ∃ n, c'.held.length = n := ⟨_, rfl⟩
          have hon : (order c').length = n := by rw [order_len HSX.out.1, hn]
          have hn6 : n ≤ 6 := by have := HSX.out.len; omega
          have HN := Lib.hid hn
          have HON := Lib.hid hon
          have SO := Lib.hid so.src
          rw [hon]
          have t0 : ((n : Int) != (n : Int)) = false := by simp
          obtain ⟨xc0, xc1, xc2, fc0, fc1, fc2⟩ := CE.out.cells
          rw [hn] at xc2
          obtain ⟨go, oo, hgo, hco⟩ := so.src 0 (inum (q : Int)) (by rw [HOR.out]; rfl)
          subst hgo
          unfold inum at hco
          have hco2 : w6.cell? ⟨go, oo, none⟩ = some (.int .i64 (q : Int)) := hco
          have t1 : ((q : Int) != (q : Int)) = false := by simp
          have hn0 : 0 < n := by rw [← HON.out, HOR.out]; simp
          have t2 : ((n : Int) == 0) = false := by rw [beq_eq_false_iff_ne]; omega
          clear hco
          clear hn hon so b6
          go_wp2
          clear t0 t1 t2 hn0 xc0 xc1 fc0 fc1 fc2
          go_loopw [14] (fun v wr => ∃ k q : Nat, k ≤ n ∧ v = .int .i64 k ∧ wr = w6.drewN q) (fun v _ => n - (intOf v).toNat)
          case atStart => exact ⟨0, 0, by omega, rfl, rfl⟩
          case round =>
            obtain ⟨k, q1, hk, rfl, rfl⟩ := hrel
            by_cases hkn : k < n
            · have hkl : k < c'.held.length := by rw [HN.out]; exact hkn
              obtain ⟨b, of, ha, hbl, e0, e1, e2⟩ := CE.out.sh.src.at_ k hkl
              rw [ha] at xc2 CE
              clear ha
              have hlk := order_later HSX.out.1 k hkl
              have hlt := later_lt c'.held c'.held[k] (List.getElem_mem hkl)
              have hrise := fun p (hp : p + 1 = k) => held_rise HSX.out.1 p (by omega)
              obtain ⟨st, hst⟩ : ∃ st, c'.held[k].st = st := ⟨_, rfl⟩
              obtain ⟨bk, hbk⟩ : ∃ x, c'.held[k].blk = x := ⟨_, rfl⟩
              rw [hst] at e1 hlk hlt
              rw [hbk] at e0 hlk
              rw [HN.out] at hlt
              have HST := Lib.hid hst
              have HLK := Lib.hid hlk
              have hcase : decide (0 < k) = false ∨ ∃ p : Nat, (k : Int) - 1 = (p : Int) ∧ (p : Int) < (n : Int) ∧ decide (0 < k) = true ∧ ∃ bp, decide (bk ≤ bp) = false ∧ w6.cell? ⟨b, of + p * 3, none⟩ = some (.int .i64 bp) := by
                rcases k with _ | p
                · exact .inl (by simp)
                · have hpl : p < c'.held.length := by omega
                  obtain ⟨b', of', ha', _, g0, _, _⟩ := CE.out.sh.src.at_ p hpl
                  injection ha' with ha'
                  injection ha' with hx1 hx2
                  subst hx1 hx2
                  have h1 := held_rise HSX.out.1 p (by omega)
                  rw [hbk] at h1
                  exact .inr ⟨p, by omega, by omega, by simp, _, decide_eq_false (by omega), g0⟩
              have HCASE := Lib.hid hcase
              clear hst hbk hlk hcase hrise e2
              go_wp2
              go_loopw [15, 16] (fun v i wr => ∃ (t q : Nat), t ≤ n ∧ v = .int .i64 (later (c'.held.take t) st : Nat) ∧ i = .int .i64 t ∧ wr = w6.drewN q) (fun _ i _ => n - (intOf i).toNat)
              case atStart => exact ⟨0, q1, by omega, rfl, rfl, rfl⟩
              case round =>
                obtain ⟨t, q2, ht, rfl, rfl, rfl⟩ := hrel
                have hlq := later_le (c'.held.take t) st
                rw [List.length_take] at hlq
                by_cases htn : t < n
                · have htl : t < c'.held.length := by rw [HN.out]; exact htn
                  obtain ⟨b', of', ha', hbl', f0, f1, f2⟩ := CE.out.sh.src.at_ t htl
                  injection ha' with ha'
                  injection ha' with hx1 hx2
                  subst hx1 hx2
                  have HL := Lib.hid (later_snoc (c'.held.take t) c'.held[t] st)
                  have HTK := Lib.hid (take_snoc c'.held t htl)
                  obtain ⟨y, hy⟩ : ∃ y, c'.held[t].st = y := ⟨_, rfl⟩
                  rw [hy] at f1 HL
                  obtain ⟨L, hL⟩ : ∃ L, later (c'.held.take t) st = L := ⟨_, rfl⟩
                  rw [hL] at hlq HL ⊢
                  clear hy f0 f2 hL
                  have hLn : L ≤ 64 := by omega
                  clear hlq
                  by_cases hys : st < y
                  · have HL2 := Lib.hid (show later (c'.held.take (t + 1)) st = L + 1 by rw [HTK.out, HL.out, if_pos hys])
                    go_wp2
                    go_quiet (fail)
                    go_wp2
                    go_roundw
                    case rel => exact ⟨t + 1, _, by omega, by rw [HL2.out]; go_num, by go_num, rfl⟩
                    case measure => simp [intOf]; omega
                  · have HL2 := Lib.hid (show later (c'.held.take (t + 1)) st = L by rw [HTK.out, HL.out, if_neg hys]; rfl)
                    go_wp2
                    go_quiet (fail)
                    go_wp2
                    go_roundw
                    case rel => exact ⟨t + 1, _, by omega, by rw [HL2.out], by go_num, rfl⟩
                    case measure => simp [intOf]; omega
                · have htt : t = n := by omega
                  have hfull : c'.held.take t = c'.held := List.take_of_length_le (by rw [HN.out]; omega)
                  rw [hfull]
                  obtain ⟨A, hA⟩ : ∃ A, later c'.held st = A := ⟨_, rfl⟩
                  rw [hA] at hlt HLK ⊢
                  obtain ⟨go, oo, hgo, hco⟩ := SO.out A (inum bk) (by rw [List.getElem?_map, HLK.out]; rfl)
                  have hco2 : w6.cell? ⟨go, oo + A, none⟩ = some (.int .i64 bk) := hco
                  have s1 : (bk != bk) = false := by simp
                  have hAn : (A : Int) < (n : Int) := by omega
                  have hA0 : (0 : Int) ≤ (A : Int) := by omega
                  clear hA hfull hco hlq
                  try subst hgo
                  rcases HCASE.out with p1 | ⟨p, p2, p3, p1, bp, p4, p5⟩
                  all_goals
                    go_wp2
                    go_quiet (fail)
                    go_wp2
                    go_roundw
                    case rel => exact ⟨k + 1, _, by omega, by go_num, rfl⟩
                    case measure => simp [intOf]; omega
            · have hkk : k = n := by omega
              have HFIN := Lib.hid (show ClockAt (30 + (j + 1)) w Bc (w6.drewN q1) from ⟨c', _, _, CE.out.below (below_drewN (Below.refl _ _) q1) rfl, HSX.out.mono (by omega), below_drewN BE.out q1⟩)
              clear hkk
              go_wp2
              go_roundw
              case rel => exact ⟨j + 1, by omega, by omega, by go_num, HFIN⟩
              case measure => simp [intOf]; omega
        · skip
          have HT := Lib.hid h
          clear h
          obtain ⟨xc0, xc1, xc2, fc0, fc1, fc2⟩ := CC1.out.cells
          go_wp2_with fail
          clear xc0 xc1 xc2 fc0 fc1 fc2
          have hqp1 := Lib.hid (take_lit c ac kc (q : Int) HT.out V1 LC.out CC1.out.sh (by omega) (by omega))
          (with_reducible refine hqp1.out.mono ?_)
          clear hqp1
          rintro e wp1 ⟨ap1, kp1, rfl, sp1, bp1⟩
          have Ecp1 := Lib.hid (CC1.out.below bp1 rfl)
          have Edp1 := Lib.hid (CD1.out.below bp1 rfl)
          have BEp1 := Lib.hid (BL1.out.trans (bp1.mono BL1.out.size))
          have Sp1 := Lib.hid sp1
          clear bp1 sp1
          obtain ⟨xc0, xc1, xc2, fc0, fc1, fc2⟩ := Ecp1.out.cells
          obtain ⟨xd0, xd1, xd2, fd0, fd1, fd2⟩ := Edp1.out.cells
          have Pcp2 := Lib.hid (Edp1.out.far Ecp1.out ncd (.int .i64 c'.room) (.int .i64 c'.clock) (.slice ap1 c'.held.length kp1))
          have Pdp2 := Lib.hid (Edp1.out.set Sp1.out)
          have BPp2 := Lib.hid (Below.put3 (B := Bd) BEp1.out (by omega) (.int .i64 c'.room) (.int .i64 c'.clock) (.slice ap1 c'.held.length kp1))
          go_wp2_with fail
          clear xc0 xc1 xc2 fc0 fc1 fc2 xd0 xd1 xd2 fd0 fd1 fd2
          have HSX := Lib.hid HSM.out
          have hq := Lib.hid (order_lit c ac kc rfl _ LC.out Pcp2.out.sh.src)
          (with_reducible refine hq.out.mono ?_)
          clear hq
          rintro e w6 ⟨ao, ko, rfl, so, b6⟩
          have CE := Lib.hid (Pcp2.out.below b6 rfl)
          have BE := Lib.hid (BPp2.out.trans (b6.mono BPp2.out.size))
          obtain ⟨n, hn⟩ : ∃ n, c.held.length = n := ⟨_, rfl⟩
          have hon : (order c).length = n := by rw [order_len HSX.out.1, hn]
          have hn6 : n ≤ 6 := by have := HSX.out.len; omega
          have HN := Lib.hid hn
          have HON := Lib.hid hon
          have SO := Lib.hid so.src
          rw [hon]
          have t0 : ((n : Int) != (n : Int)) = false := by simp
          obtain ⟨xc0, xc1, xc2, fc0, fc1, fc2⟩ := CE.out.cells
          rw [hn] at xc2
          clear hn hon so b6
          go_wp2
          clear t0 xc0 xc1 fc0 fc1 fc2
          go_loopw [14] (fun v wr => ∃ k q : Nat, k ≤ n ∧ v = .int .i64 k ∧ wr = w6.drewN q) (fun v _ => n - (intOf v).toNat)
          case atStart => exact ⟨0, 0, by omega, rfl, rfl⟩
          case round =>
            obtain ⟨k, q1, hk, rfl, rfl⟩ := hrel
            by_cases hkn : k < n
            · have hkl : k < c.held.length := by rw [HN.out]; exact hkn
              obtain ⟨b, of, ha, hbl, e0, e1, e2⟩ := CE.out.sh.src.at_ k hkl
              rw [ha] at xc2 CE
              clear ha
              have hlk := order_later HSX.out.1 k hkl
              have hlt := later_lt c.held c.held[k] (List.getElem_mem hkl)
              have hrise := fun p (hp : p + 1 = k) => held_rise HSX.out.1 p (by omega)
              obtain ⟨st, hst⟩ : ∃ st, c.held[k].st = st := ⟨_, rfl⟩
              obtain ⟨bk, hbk⟩ : ∃ x, c.held[k].blk = x := ⟨_, rfl⟩
              rw [hst] at e1 hlk hlt
              rw [hbk] at e0 hlk
              rw [HN.out] at hlt
              have HST := Lib.hid hst
              have HLK := Lib.hid hlk
              have hcase : decide (0 < k) = false ∨ ∃ p : Nat, (k : Int) - 1 = (p : Int) ∧ (p : Int) < (n : Int) ∧ decide (0 < k) = true ∧ ∃ bp, decide (bk ≤ bp) = false ∧ w6.cell? ⟨b, of + p * 3, none⟩ = some (.int .i64 bp) := by
                rcases k with _ | p
                · exact .inl (by simp)
                · have hpl : p < c.held.length := by omega
                  obtain ⟨b', of', ha', _, g0, _, _⟩ := CE.out.sh.src.at_ p hpl
                  injection ha' with ha'
                  injection ha' with hx1 hx2
                  subst hx1 hx2
                  have h1 := held_rise HSX.out.1 p (by omega)
                  rw [hbk] at h1
                  exact .inr ⟨p, by omega, by omega, by simp, _, decide_eq_false (by omega), g0⟩
              have HCASE := Lib.hid hcase
              clear hst hbk hlk hcase hrise e2
              go_wp2
              go_loopw [15, 16] (fun v i wr => ∃ (t q : Nat), t ≤ n ∧ v = .int .i64 (later (c.held.take t) st : Nat) ∧ i = .int .i64 t ∧ wr = w6.drewN q) (fun _ i _ => n - (intOf i).toNat)
              case atStart => exact ⟨0, q1, by omega, rfl, rfl, rfl⟩
              case round =>
                obtain ⟨t, q2, ht, rfl, rfl, rfl⟩ := hrel
                have hlq := later_le (c.held.take t) st
                rw [List.length_take] at hlq
                by_cases htn : t < n
                · have htl : t < c.held.length := by rw [HN.out]; exact htn
                  obtain ⟨b', of', ha', hbl', f0, f1, f2⟩ := CE.out.sh.src.at_ t htl
                  injection ha' with ha'
                  injection ha' with hx1 hx2
                  subst hx1 hx2
                  have HL := Lib.hid (later_snoc (c.held.take t) c.held[t] st)
                  have HTK := Lib.hid (take_snoc c.held t htl)
                  obtain ⟨y, hy⟩ : ∃ y, c.held[t].st = y := ⟨_, rfl⟩
                  rw [hy] at f1 HL
                  obtain ⟨L, hL⟩ : ∃ L, later (c.held.take t) st = L := ⟨_, rfl⟩
                  rw [hL] at hlq HL ⊢
                  clear hy f0 f2 hL
                  have hLn : L ≤ 64 := by omega
                  clear hlq
                  by_cases hys : st < y
                  · have HL2 := Lib.hid (show later (c.held.take (t + 1)) st = L + 1 by rw [HTK.out, HL.out, if_pos hys])
                    go_wp2
                    go_quiet (fail)
                    go_wp2
                    go_roundw
                    case rel => exact ⟨t + 1, _, by omega, by rw [HL2.out]; go_num, by go_num, rfl⟩
                    case measure => simp [intOf]; omega
                  · have HL2 := Lib.hid (show later (c.held.take (t + 1)) st = L by rw [HTK.out, HL.out, if_neg hys]; rfl)
                    go_wp2
                    go_quiet (fail)
                    go_wp2
                    go_roundw
                    case rel => exact ⟨t + 1, _, by omega, by rw [HL2.out], by go_num, rfl⟩
                    case measure => simp [intOf]; omega
                · have htt : t = n := by omega
                  have hfull : c.held.take t = c.held := List.take_of_length_le (by rw [HN.out]; omega)
                  rw [hfull]
                  obtain ⟨A, hA⟩ : ∃ A, later c.held st = A := ⟨_, rfl⟩
                  rw [hA] at hlt HLK ⊢
                  obtain ⟨go, oo, hgo, hco⟩ := SO.out A (inum bk) (by rw [List.getElem?_map, HLK.out]; rfl)
                  have hco2 : w6.cell? ⟨go, oo + A, none⟩ = some (.int .i64 bk) := hco
                  have s1 : (bk != bk) = false := by simp
                  have hAn : (A : Int) < (n : Int) := by omega
                  have hA0 : (0 : Int) ≤ (A : Int) := by omega
                  clear hA hfull hco hlq
                  try subst hgo
                  rcases HCASE.out with p1 | ⟨p, p2, p3, p1, bp, p4, p5⟩
                  all_goals
                    go_wp2
                    go_quiet (fail)
                    go_wp2
                    go_roundw
                    case rel => exact ⟨k + 1, _, by omega, by go_num, rfl⟩
                    case measure => simp [intOf]; omega
            · have hkk : k = n := by omega
              have HFIN := Lib.hid (show ClockAt (30 + (j + 1)) w Bc (w6.drewN q1) from ⟨c, _, _, CE.out.below (below_drewN (Below.refl _ _) q1) rfl, HSX.out.mono (by omega), below_drewN BE.out q1⟩)
              clear hkk
              go_wp2
              go_roundw
              case rel => exact ⟨j + 1, by omega, by omega, by go_num, HFIN⟩
              case measure => simp [intOf]; omega
      · obtain ⟨g9, c', h, hs, hk, hr, r, ho⟩ := use_keep HSM.out (by omega) q hq ⟨#[120]⟩
        have HT := Lib.hid h
        have HSN := Lib.hid hs
        have HKC := Lib.hid hk
        have HRM := Lib.hid hr
        have HOR := Lib.hid ho
        have LN := Lib.hid (show c'.held.length ≤ 1000000 by have := hs.len; omega)
        clear h hs hk hr ho
        obtain ⟨xc0, xc1, xc2, fc0, fc1, fc2⟩ := CC1.out.cells
        go_wp2_with fail
        clear xc0 xc1 xc2 fc0 fc1 fc2
        have hqp1 := Lib.hid (keep_lit c ac kc (q : Int) ⟨#[120]⟩ HT.out V1 LC.out CC1.out.sh (by omega) (by omega))
        (with_reducible refine hqp1.out.mono ?_)
        clear hqp1
        rintro e wp1 ⟨ap1, kp1, rfl, sp1, bp1⟩
        have Ecp1 := Lib.hid (CC1.out.below bp1 rfl)
        have Edp1 := Lib.hid (CD1.out.below bp1 rfl)
        have BEp1 := Lib.hid (BL1.out.trans (bp1.mono BL1.out.size))
        have Sp1 := Lib.hid sp1
        clear bp1 sp1
        obtain ⟨xc0, xc1, xc2, fc0, fc1, fc2⟩ := Ecp1.out.cells
        obtain ⟨xd0, xd1, xd2, fd0, fd1, fd2⟩ := Edp1.out.cells
        have Pcp2 := Lib.hid (Edp1.out.far Ecp1.out ncd (.int .i64 c'.room) (.int .i64 c'.clock) (.slice ap1 c'.held.length kp1))
        have Pdp2 := Lib.hid (Edp1.out.set Sp1.out)
        have BPp2 := Lib.hid (Below.put3 (B := Bd) BEp1.out (by omega) (.int .i64 c'.room) (.int .i64 c'.clock) (.slice ap1 c'.held.length kp1))
        have hcw := HCW.out
        have q1 : (c'.clock != c.clock + 1) = false := by rw [HKC.out]; simp
        have q2 : (c'.room != c.room) = false := by rw [HRM.out]; simp
        have Pdp3 := Lib.hid (Pcp2.out.far Pdp2.out ndc (.int .i64 c'.room) (.int .i64 c'.clock) (.slice ap1 c'.held.length kp1))
        have Pcp3 := Lib.hid (Pcp2.out.set Pdp2.out.sh)
        have BPp3 := Lib.hid (Below.put3 (B := Bc) BPp2.out (by omega) (.int .i64 c'.room) (.int .i64 c'.clock) (.slice ap1 c'.held.length kp1))
        go_wp2_with fail
        clear xc0 xc1 xc2 fc0 fc1 fc2 xd0 xd1 xd2 fd0 fd1 fd2
        clear q1 q2 hcw
        have HSX := Lib.hid HSN.out
        have hq := Lib.hid (order_lit c' ap1 kp1 rfl _ LN.out Pcp3.out.sh.src)
        (with_reducible refine hq.out.mono ?_)
        clear hq
        rintro e w6 ⟨ao, ko, rfl, so, b6⟩
        have CE := Lib.hid (Pcp3.out.below b6 rfl)
        have BE := Lib.hid (BPp3.out.trans (b6.mono BPp3.out.size))
        obtain ⟨n, hn⟩ : ∃ n, c'.held.length = n := ⟨_, rfl⟩
        have hon : (order c').length = n := by rw [order_len HSX.out.1, hn]
        have hn6 : n ≤ 6 := by have := HSX.out.len; omega
        have HN := Lib.hid hn
        have HON := Lib.hid hon
        have SO := Lib.hid so.src
        rw [hon]
        have t0 : ((n : Int) != (n : Int)) = false := by simp
        obtain ⟨xc0, xc1, xc2, fc0, fc1, fc2⟩ := CE.out.cells
        rw [hn] at xc2
        obtain ⟨go, oo, hgo, hco⟩ := so.src 0 (inum (q : Int)) (by rw [HOR.out]; rfl)
        subst hgo
        unfold inum at hco
        have hco2 : w6.cell? ⟨go, oo, none⟩ = some (.int .i64 (q : Int)) := hco
        have t1 : ((q : Int) != (q : Int)) = false := by simp
        have hn0 : 0 < n := by rw [← HON.out, HOR.out]; simp
        have t2 : ((n : Int) == 0) = false := by rw [beq_eq_false_iff_ne]; omega
        clear hco
        clear hn hon so b6
        go_wp2
        clear t0 t1 t2 hn0 xc0 xc1 fc0 fc1 fc2
        go_loopw [14] (fun v wr => ∃ k q : Nat, k ≤ n ∧ v = .int .i64 k ∧ wr = w6.drewN q) (fun v _ => n - (intOf v).toNat)
        case atStart => exact ⟨0, 0, by omega, rfl, rfl⟩
        case round =>
          obtain ⟨k, q1, hk, rfl, rfl⟩ := hrel
          by_cases hkn : k < n
          · have hkl : k < c'.held.length := by rw [HN.out]; exact hkn
            obtain ⟨b, of, ha, hbl, e0, e1, e2⟩ := CE.out.sh.src.at_ k hkl
            rw [ha] at xc2 CE
            clear ha
            have hlk := order_later HSX.out.1 k hkl
            have hlt := later_lt c'.held c'.held[k] (List.getElem_mem hkl)
            have hrise := fun p (hp : p + 1 = k) => held_rise HSX.out.1 p (by omega)
            obtain ⟨st, hst⟩ : ∃ st, c'.held[k].st = st := ⟨_, rfl⟩
            obtain ⟨bk, hbk⟩ : ∃ x, c'.held[k].blk = x := ⟨_, rfl⟩
            rw [hst] at e1 hlk hlt
            rw [hbk] at e0 hlk
            rw [HN.out] at hlt
            have HST := Lib.hid hst
            have HLK := Lib.hid hlk
            have hcase : decide (0 < k) = false ∨ ∃ p : Nat, (k : Int) - 1 = (p : Int) ∧ (p : Int) < (n : Int) ∧ decide (0 < k) = true ∧ ∃ bp, decide (bk ≤ bp) = false ∧ w6.cell? ⟨b, of + p * 3, none⟩ = some (.int .i64 bp) := by
              rcases k with _ | p
              · exact .inl (by simp)
              · have hpl : p < c'.held.length := by omega
                obtain ⟨b', of', ha', _, g0, _, _⟩ := CE.out.sh.src.at_ p hpl
                injection ha' with ha'
                injection ha' with hx1 hx2
                subst hx1 hx2
                have h1 := held_rise HSX.out.1 p (by omega)
                rw [hbk] at h1
                exact .inr ⟨p, by omega, by omega, by simp, _, decide_eq_false (by omega), g0⟩
            have HCASE := Lib.hid hcase
            clear hst hbk hlk hcase hrise e2
            go_wp2
            go_loopw [15, 16] (fun v i wr => ∃ (t q : Nat), t ≤ n ∧ v = .int .i64 (later (c'.held.take t) st : Nat) ∧ i = .int .i64 t ∧ wr = w6.drewN q) (fun _ i _ => n - (intOf i).toNat)
            case atStart => exact ⟨0, q1, by omega, rfl, rfl, rfl⟩
            case round =>
              obtain ⟨t, q2, ht, rfl, rfl, rfl⟩ := hrel
              have hlq := later_le (c'.held.take t) st
              rw [List.length_take] at hlq
              by_cases htn : t < n
              · have htl : t < c'.held.length := by rw [HN.out]; exact htn
                obtain ⟨b', of', ha', hbl', f0, f1, f2⟩ := CE.out.sh.src.at_ t htl
                injection ha' with ha'
                injection ha' with hx1 hx2
                subst hx1 hx2
                have HL := Lib.hid (later_snoc (c'.held.take t) c'.held[t] st)
                have HTK := Lib.hid (take_snoc c'.held t htl)
                obtain ⟨y, hy⟩ : ∃ y, c'.held[t].st = y := ⟨_, rfl⟩
                rw [hy] at f1 HL
                obtain ⟨L, hL⟩ : ∃ L, later (c'.held.take t) st = L := ⟨_, rfl⟩
                rw [hL] at hlq HL ⊢
                clear hy f0 f2 hL
                have hLn : L ≤ 64 := by omega
                clear hlq
                by_cases hys : st < y
                · have HL2 := Lib.hid (show later (c'.held.take (t + 1)) st = L + 1 by rw [HTK.out, HL.out, if_pos hys])
                  go_wp2
                  go_quiet (fail)
                  go_wp2
                  go_roundw
                  case rel => exact ⟨t + 1, _, by omega, by rw [HL2.out]; go_num, by go_num, rfl⟩
                  case measure => simp [intOf]; omega
                · have HL2 := Lib.hid (show later (c'.held.take (t + 1)) st = L by rw [HTK.out, HL.out, if_neg hys]; rfl)
                  go_wp2
                  go_quiet (fail)
                  go_wp2
                  go_roundw
                  case rel => exact ⟨t + 1, _, by omega, by rw [HL2.out], by go_num, rfl⟩
                  case measure => simp [intOf]; omega
              · have htt : t = n := by omega
                have hfull : c'.held.take t = c'.held := List.take_of_length_le (by rw [HN.out]; omega)
                rw [hfull]
                obtain ⟨A, hA⟩ : ∃ A, later c'.held st = A := ⟨_, rfl⟩
                rw [hA] at hlt HLK ⊢
                obtain ⟨go, oo, hgo, hco⟩ := SO.out A (inum bk) (by rw [List.getElem?_map, HLK.out]; rfl)
                have hco2 : w6.cell? ⟨go, oo + A, none⟩ = some (.int .i64 bk) := hco
                have s1 : (bk != bk) = false := by simp
                have hAn : (A : Int) < (n : Int) := by omega
                have hA0 : (0 : Int) ≤ (A : Int) := by omega
                clear hA hfull hco hlq
                try subst hgo
                rcases HCASE.out with p1 | ⟨p, p2, p3, p1, bp, p4, p5⟩
                all_goals
                  go_wp2
                  go_quiet (fail)
                  go_wp2
                  go_roundw
                  case rel => exact ⟨k + 1, _, by omega, by go_num, rfl⟩
                  case measure => simp [intOf]; omega
          · have hkk : k = n := by omega
            have HFIN := Lib.hid (show ClockAt (30 + (j + 1)) w Bc (w6.drewN q1) from ⟨c', _, _, CE.out.below (below_drewN (Below.refl _ _) q1) rfl, HSX.out.mono (by omega), below_drewN BE.out q1⟩)
            clear hkk
            go_wp2
            go_roundw
            case rel => exact ⟨j + 1, by omega, by omega, by go_num, HFIN⟩
            case measure => simp [intOf]; omega
    · have h3 : ¬ j < len2 ∨ (j < len2 ∧ ¬ j < 40) := by
        by_cases h1 : j < len2
        · exact .inr ⟨h1, fun h => hc ⟨h1, h⟩⟩
        · exact .inl h1
      clear hc
      rcases h3 with h | ⟨h, h'⟩
      all_goals
        go_wp2
        go_ret
        exact ⟨rfl, BL.out⟩

set_option maxRecDepth 100000 in
set_option maxHeartbeats 400000 in
theorem lifted (os : Os) (started : os.Started) (H : Type) (enc : TypeId × Value → H) :
    ReturnsInHanded {} Try.checked os 7 .any (Rows.cacheClockSpec.pre6 enc Try.prog Try.f7 Rows.cacheClockRow.domain false) (Rows.cacheClockSpec.post enc Try.prog Try.f7 false true false false) := by
  refine returnsInHanded_of_change (C := Try.checked) own started (by kernel_rfl) Try.func7
    (ChangeSpec.witness6 (enc := enc) (C := Try.checked) false ⟨#[], #[.int .i64 0, .slice none 0 0, .slice none 0 0], []⟩ 8 (by kernel_rfl) (by kernel_rfl) (by kernel_rfl) (by kernel_rfl)) ?_
  intro W base args ds gs before hval0 hW hcnd _
  have hval : ∀ (j : Nat) t v, Try.f7.params[j]? = some t → args[j]? = some v → Value.okWide Try.prog W .any base t v := hval0
  have hW' := hW
  obtain ⟨p, q, hA0, hV, rfl, hfz, hnd⟩ := hW
  have hA : DataW.TrodAll enc Try.prog W 0 (fun _ => true) true Try.f7.params.toList args.toList ds p := hA0
  rw [Try.params7] at hA hval
  obtain ⟨v0, vs0, d0, ds0, p0, q0, hargs, rfl, rfl, h0, r0⟩ := trodAll_cons hA
  obtain ⟨v1, vs1, d1, ds1, p1, q1, rfl, rfl, rfl, h1, r1⟩ := trodAll_cons r0
  obtain ⟨v2, vs2, d2, ds2, p2, q2, rfl, rfl, rfl, h2, r2⟩ := trodAll_cons r1
  obtain ⟨rfl, rfl, rfl⟩ := trodAll_nil r2
  obtain rfl : args = #[v0, v1, v2] := by cases args; simp_all
  obtain ⟨rfl, rfl⟩ := trodVars_none hV
  obtain ⟨a0, rfl, rfl, rfl, w0⟩ := open_int Try.underlying3 (hval 0 3 v0 rfl rfl) h0
  obtain ⟨a1, len1, cap1, rfl⟩ := okWide_slice Try.underlying22 (hval 1 22 v1 rfl rfl)
  have k1 := h1
  have lt1 : ∀ x ∈ p1, x.block < W.heap.size := by obtain ⟨m, hm⟩ := k1; exact DataW.trod_lt m _ _ _ hm
  obtain ⟨z1, w1⟩ : ∃ g, Kit.IsPairs .i64 W a1 len1 cap1 g := Kit.open_pairs Try.underlying22 Try.underlying45 Try.underlying3 (by kernel_rfl) (by kernel_rfl) h1
  obtain ⟨a2, len2, cap2, rfl⟩ := okWide_slice Try.underlying22 (hval 2 22 v2 rfl rfl)
  have k2 := h2
  have lt2 : ∀ x ∈ p2, x.block < W.heap.size := by obtain ⟨m, hm⟩ := k2; exact DataW.trod_lt m _ _ _ hm
  obtain ⟨z2, w2⟩ : ∃ g, Kit.IsPairs .i64 W a2 len2 cap2 g := Kit.open_pairs Try.underlying22 Try.underlying45 Try.underlying3 (by kernel_rfl) (by kernel_rfl) h2
  clear hA0 hval0
  refine (walk a0 a1 len1 cap1 z1 a2 len2 cap2 z2 W w0 w1 w2).mono fun e W' ⟨he, bel⟩ => ?_
  subst he
  exact ⟨_, rfl, _, _, _, [], _, [], hW', trodAll_mk1 (shut_bool Try.underlying4 _), (trodAll_cons_mk (shut_int Try.underlying3 w0) (trodAll_cons_mk (Below.trod laidOut (by kernel_rfl) (of_decide_eq_true (by kernel_rfl)) k1 bel lt1) (trodAll_cons_mk (Below.trod laidOut (by kernel_rfl) (of_decide_eq_true (by kernel_rfl)) k2 bel lt2) trodAll_mk0))), rfl, bel.frame _, fun h => by cases h⟩

theorem over : Rows.cacheClockRow.holds Try.pinned (OpenSpec.ofChange Rows.cacheClockSpec) :=
  OpenClaim.holds_of_wide 7 Try.f7 rfl rfl rfl rfl rfl rfl rfl ⟨rfl, rfl, rfl, rfl, rfl⟩ rfl rfl rfl rfl rfl (by kernel_rfl) Try.func7 (by kernel_rfl)
    (of_decide_eq_true (by kernel_rfl)) (by unfold Func.isWrapper; first | (rw [if_pos (by decide +kernel)]; kernel_rfl) | (rw [if_neg (by decide +kernel)]; exact ⟨rfl, rfl⟩))
    (fun os started H enc _ => lifted os started H enc)

theorem proved : Rows.CacheClockSaid := over
#print axioms proved
end Go.Proofs.Ytpkhafijmbgcnaa.cacheClock
