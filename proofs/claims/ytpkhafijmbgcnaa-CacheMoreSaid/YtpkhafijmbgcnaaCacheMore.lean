/-
  The law CacheMore of chapter 21 returns true: with more room there is all that there is with less, in the same order, and more behind it.
  For every input: no condition.
-/
import Derived.Test.YtpkhafijmbgcnaaRows
import Derived.Test.YtpkhafijmbgcnaaDLaw0
import Derived.Test.YtpkhafijmbgcnaaEPlain
import Derived.Test.YtpkhafijmbgcnaaEInts
import Derived.WalkLawsBesides
import Derived.WalkSpells
import Derived.Lib.Hide
import Derived.BigQuiet
import Derived.WalkKit
import Derived.ProofKit
import Derived.OpenShut
import Derived.ShutString
import Derived.ChangeOld
import Derived.Below
namespace Go.Proofs.Ytpkhafijmbgcnaa.cacheMore
set_option linter.unusedVariables false
open Go.RowKit
open Cache Go.Shelf
open Go.ChangeShapes Go.WideShapes Go.ChangeAt Go.RowKit
open Go.ChangeMaps (open_string shut_string)

theorem own : ownKnob Try.prog.godebug = none := by kernel_rfl
theorem laidOut : laidOutB Try.prog = true := by kernel_rfl

/-- A slice of integers that came in. -/
def IsRow (k : IntKind) (w : World) (a : Option Addr) (len cap : Nat) (zs : List Int) : Prop :=
  (a = none ∧ len = 0 ∧ cap = 0 ∧ zs = []) ∨
  ∃ x, a = some x ∧ len ≤ cap ∧ cap ≤ maxLen ∧ zs.length = cap ∧ (∀ i, i < zs.length → w.cell? (x.add i) = some (.int k (zs.getD i 0))) ∧ ∀ n ∈ zs, (Lit.int k n).wf = true

/-- What the loop holds of its world. -/
def MoreAt (n m j : Nat) (w : World) (BA BB : Nat) (wr : World) : Prop := ∃ ca aa ka cb ab kb, CellSh wr BA ca aa ka ∧ CellSh wr BB cb ab kb ∧ More n m j ca cb ∧ Below w.heap.size w wr
set_option maxRecDepth 100000 in
set_option maxHeartbeats 4000000 in
theorem walk (a0 : Int) (a1 : Int) (a2 : Option Addr) (len2 cap2 : Nat) (z2 : List Int) (w : World) (w0 : (Lit.int .i64 a0).wf = true) (w1 : (Lit.int .i64 a1).wf = true) (w2 : IsRow .i64 w a2 len2 cap2 z2) :
    Calls Try.prog 5 #[.int .i64 a0, .int .i64 a1, .slice a2 len2 cap2] w fun e w' => e = .returned (.bool true) ∧ Below w.heap.size w w' := by
  obtain ⟨l, hl, hlm, hlc, hcm, hnone, hsrc, hbd⟩ := ints_of w2
  have HL := Lib.hid hl
  have HSRC := Lib.hid hsrc
  have HBD := Lib.hid hbd
  unfold maxLen at hlm
  obtain ⟨l0, u0⟩ := bounds_i64 w0
  obtain ⟨l1, u1⟩ := bounds_i64 w1
  obtain ⟨n, hn, hpn⟩ := pick_nat a0 6 l0 u0 (by omega) (by omega) 6 rfl
  obtain ⟨m, hm, hpm⟩ := pick_nat a1 6 l1 u1 (by omega) (by omega) 6 rfl
  have HPN := Lib.hid hpn
  have HPM := Lib.hid hpm
  clear w2 hl hsrc hbd hcm hnone hlc w0 w1 hpn hpm l0 u0 l1 u1
  obtain ⟨c0, hc0⟩ : ∃ c, c = (⟨1 + (n : Int), 0, []⟩ : Sh) := ⟨_, rfl⟩
  obtain ⟨d0, hd0⟩ : ∃ c, c = (⟨1 + (n : Int) + (m : Int), 0, []⟩ : Sh) := ⟨_, rfl⟩
  have M0 := Lib.hid (show More n m 0 c0 d0 by rw [hc0, hd0]; exact More.start n m hn hm)
  have N0 := Lib.hid (show newS (1 + (n : Int)) = c0 by rw [hc0]; exact newS_of (by omega) (by omega))
  have N0' := Lib.hid (newE_of (room := 1 + (n : Int)) (by omega) (by omega))
  have N1 := Lib.hid (show newS (1 + (n : Int) + (m : Int)) = d0 by rw [hd0]; exact newS_of (by omega) (by omega))
  have N1' := Lib.hid (newE_of (room := 1 + (n : Int) + (m : Int)) (by omega) (by omega))
  clear hc0 hd0
  go_enter Try.func5, Try.ntmps5
  go_wp2_with fail
  refine (awake_any _).mono ?_
  rintro e w1 ⟨rfl, b1⟩
  have BL0 := Lib.hid b1
  clear b1
  go_wp2_with fail
  refine (HPN.out _).mono ?_
  rintro e w9 ⟨rfl, rfl⟩
  go_wp2_with fail
  refine (new_lit _ N0.out N0'.out _).mono ?_
  rintro e wi1 ⟨rfl, si1, bi1⟩
  have Cai1 := CellSh.new si1
  have BLi1 := Lib.hid ((BL0.out.trans (bi1.mono BL0.out.size)).alloc (Nat.le_trans BL0.out.size bi1.size) (.cells #[.int .i64 c0.room, .int .i64 c0.clock, .slice none c0.held.length 0] TS))
  have zi1 := Nat.le_trans BL0.out.size bi1.size
  obtain ⟨Ba, ha⟩ : ∃ B, wi1.heap.size = B := ⟨_, rfl⟩
  rw [ha] at Cai1 zi1
  have Dai1 := Lib.hid Cai1
  clear bi1 si1 Cai1
  obtain ⟨Vi1, hVi1⟩ : ∃ V, wi1.alloc (.cells #[.int .i64 c0.room, .int .i64 c0.clock, .slice none c0.held.length 0] TS) = V := ⟨_, rfl⟩
  rw [hVi1] at BLi1 Dai1
  obtain ⟨xa0, xa1, xa2, fa0, fa1, fa2⟩ := Dai1.out.cells
  go_wp2_with fail
  clear hVi1 ha
  clear xa0 xa1 xa2 fa0 fa1 fa2
  refine (HPM.out _).mono ?_
  rintro e w9 ⟨rfl, rfl⟩
  obtain ⟨xa0, xa1, xa2, fa0, fa1, fa2⟩ := Dai1.out.cells
  go_wp2_with fail
  clear xa0 xa1 xa2 fa0 fa1 fa2
  refine (new_lit _ N1.out N1'.out _).mono ?_
  rintro e wi2 ⟨rfl, si2, bi2⟩
  have Cai2 := Lib.hid ((Dai1.out.below bi2 rfl).below ((Below.refl _ _).alloc (Nat.le_refl _) (.cells #[.int .i64 d0.room, .int .i64 d0.clock, .slice none d0.held.length 0] TS)) rfl)
  have lai2 := (Dai1.out.below bi2 rfl).lt
  have Cbi2 := CellSh.new si2
  have BLi2 := Lib.hid ((BLi1.out.trans (bi2.mono BLi1.out.size)).alloc (Nat.le_trans BLi1.out.size bi2.size) (.cells #[.int .i64 d0.room, .int .i64 d0.clock, .slice none d0.held.length 0] TS))
  have zi2 := Nat.le_trans BLi1.out.size bi2.size
  obtain ⟨Bb, hb⟩ : ∃ B, wi2.heap.size = B := ⟨_, rfl⟩
  rw [hb] at Cbi2 zi2 lai2
  have nab : ¬ Ba = Bb := by omega
  have nba : ¬ Bb = Ba := by omega
  have Dbi2 := Lib.hid Cbi2
  clear bi2 si2 Cbi2
  obtain ⟨Vi2, hVi2⟩ : ∃ V, wi2.alloc (.cells #[.int .i64 d0.room, .int .i64 d0.clock, .slice none d0.held.length 0] TS) = V := ⟨_, rfl⟩
  rw [hVi2] at BLi2 Dbi2 Cai2
  have HAT := Lib.hid (show MoreAt n m 0 w Ba Bb Vi2 from ⟨c0, none, 0, d0, none, 0, Cai2.out, Dbi2.out, M0.out, BLi2.out⟩)
  obtain ⟨xa0, xa1, xa2, fa0, fa1, fa2⟩ := Cai2.out.cells
  obtain ⟨xb0, xb1, xb2, fb0, fb1, fb2⟩ := Dbi2.out.cells
  go_wp2
  clear hVi2 hb
  clear xa0 xa1 xa2 fa0 fa1 fa2 xb0 xb1 xb2 fb0 fb1 fb2
  have hwa : w.heap.size ≤ Ba := by omega
  have hwb : w.heap.size ≤ Bb := by omega
  clear lai2 zi1 zi2
  go_loopw [13] (fun i wr => ∃ j : Nat, j ≤ len2 ∧ j ≤ 60 ∧ i = .int .i64 j ∧ RowKit.Hid (MoreAt n m j w Ba Bb wr)) (fun i _ => len2 - (intOf i).toNat)
  case atStart => exact ⟨0, by omega, by omega, rfl, HAT⟩
  case round =>
    obtain ⟨j, hj, hj60, rfl, hat⟩ := hrel
    obtain ⟨ca, aa, ka, cb, ab, kb, hca, hcb, hmo, hb⟩ := hat.out
    have CA := Lib.hid hca
    have CB := Lib.hid hcb
    have HMO := Lib.hid hmo
    have BL := Lib.hid hb
    clear hca hcb hmo hb hat HAT
    by_cases hc : j < len2 ∧ j < 60
    · obtain ⟨hc1, hc2⟩ := hc
      have hjl : j < l.length := by rw [HL.out]; exact hc1
      obtain ⟨b0, off, rfl, hbl, hcell⟩ := src_at HSRC.out j hjl
      obtain ⟨x9, hx9⟩ : ∃ x, l[j] = x := ⟨_, rfl⟩
      obtain ⟨q1, q2⟩ := HBD.out _ (List.getElem_mem hjl)
      rw [hx9] at hcell q1 q2
      have hcw : _ := BL.out.cell (p := ⟨b0, off + j, none⟩) hbl
      rw [hcell] at hcw
      obtain ⟨t, ht, hpt⟩ := pick_nat x9 10 q1 q2 (by omega) (by omega) 10 rfl
      have HPT := Lib.hid hpt
      obtain ⟨xa, xb, hway, hm2, hord⟩ := HMO.out.step hn hm (by omega) (t : Int) (by omega) ⟨#[116]⟩
      obtain ⟨k, hk⟩ : ∃ k : Int, (t : Int) = k := ⟨_, rfl⟩
      have hk0 : 0 ≤ k := by omega
      have hk1 : k ≤ 100 := by omega
      rw [hk] at hway hord HPT
      have HM2 := Lib.hid hm2
      have HWAY := Lib.hid hway
      have LCA := Lib.hid (show ca.held.length ≤ 1000000 by have := HMO.out.ra.2.2.2.2.1; have := HMO.out.roomA; omega)
      have LCB := Lib.hid (show cb.held.length ≤ 1000000 by have := HMO.out.rb.2.2.2.2.1; have := HMO.out.roomB; omega)
      have HXA := Lib.hid (show xa.held.length ≤ 1000000 by have := hm2.ra.2.2.2.2.1; have := hm2.roomA; omega)
      have HXB := Lib.hid (show xb.held.length ≤ 1000000 by have := hm2.rb.2.2.2.2.1; have := hm2.roomB; omega)
      obtain ⟨LA, hLA⟩ : ∃ L, order xa = L := ⟨_, rfl⟩
      obtain ⟨LB, hLB⟩ : ∃ L, order xb = L := ⟨_, rfl⟩
      have hpre := hm2.pre
      have hlb := order_len hm2.rb
      obtain ⟨r, hr⟩ := hord
      rw [hLA] at hpre hr
      rw [hLB] at hpre hlb
      obtain ⟨P, hP⟩ : ∃ P, LA.length = P := ⟨_, rfl⟩
      obtain ⟨Q, hQ⟩ : ∃ Q, LB.length = Q := ⟨_, rfl⟩
      have hPQ : P ≤ Q := by rw [← hP, ← hQ]; exact hpre.length_le
      have hP0 : 0 < P := by rw [← hP, hr]; simp
      have hQ1 : Q ≤ 100 := by have := hm2.rb.2.2.2.2.1; have := hm2.roomB; omega
      have HLA := Lib.hid hLA
      have HLB := Lib.hid hLB
      have HPR := Lib.hid (show ((LA.map inum)[0]? = some (inum k) ∧ LA.length = P) ∧ LB.length = Q from ⟨⟨by rw [hr]; rfl, hP⟩, hQ⟩)
      have HTK := Lib.hid (show LB.take P = LA by rw [← hP]; exact (List.prefix_iff_eq_take.1 hpre).symm)
      obtain ⟨xa0, xa1, xa2, fa0, fa1, fa2⟩ := CA.out.cells
      obtain ⟨xb0, xb1, xb2, fb0, fb1, fb2⟩ := CB.out.cells
      clear hpt hway hm2 hLA hLB hpre hlb hr hP hQ hcell hx9 q1 q2 hbl
      go_wp2_with fail
      refine (HPT.out _).mono ?_
      rintro e w9 ⟨rfl, rfl⟩
      clear hk ht hcw
      obtain ⟨s, s', h1, h2⟩ | ⟨s, s', z, g, h1, h2, h3⟩ | ⟨s, s', z, z', g, g', h1, h2, h3, h4⟩ := HWAY.out
      · have H1 := Lib.hid h1
        have H2 := Lib.hid h2
        clear h1 h2
        go_wp2_with fail
        clear xa0 xa1 xa2 fa0 fa1 fa2 xb0 xb1 xb2 fb0 fb1 fb2
        have hqp1 := Lib.hid (take_lit ca aa ka k H1.out _ LCA.out CA.out.sh (by omega) (by omega))
        (with_reducible refine hqp1.out.mono ?_)
        clear hqp1
        rintro e wp1 ⟨ap1, kp1, rfl, sp1, bp1⟩
        have Cap1 := Lib.hid ((CA.out.below bp1 rfl).below ((Below.refl _ _).alloc (Nat.le_refl _) (.cells #[.int .i64 xa.room, .int .i64 xa.clock, .slice ap1 xa.held.length kp1] TS)) rfl)
        have lap1 := (CA.out.below bp1 rfl).lt
        have Cbp1 := Lib.hid ((CB.out.below bp1 rfl).below ((Below.refl _ _).alloc (Nat.le_refl _) (.cells #[.int .i64 xa.room, .int .i64 xa.clock, .slice ap1 xa.held.length kp1] TS)) rfl)
        have lbp1 := (CB.out.below bp1 rfl).lt
        have Cxp1 := CellSh.new sp1
        have BLp1 := Lib.hid ((BL.out.trans (bp1.mono BL.out.size)).alloc (Nat.le_trans BL.out.size bp1.size) (.cells #[.int .i64 xa.room, .int .i64 xa.clock, .slice ap1 xa.held.length kp1] TS))
        have zp1 := Nat.le_trans BL.out.size bp1.size
        obtain ⟨Bx, hx⟩ : ∃ B, wp1.heap.size = B := ⟨_, rfl⟩
        rw [hx] at Cxp1 zp1 lap1 lbp1
        have nax : ¬ Ba = Bx := by omega
        have nxa : ¬ Bx = Ba := by omega
        have nbx : ¬ Bb = Bx := by omega
        have nxb : ¬ Bx = Bb := by omega
        have Dxp1 := Lib.hid Cxp1
        clear bp1 sp1 Cxp1
        obtain ⟨Vp1, hVp1⟩ : ∃ V, wp1.alloc (.cells #[.int .i64 xa.room, .int .i64 xa.clock, .slice ap1 xa.held.length kp1] TS) = V := ⟨_, rfl⟩
        rw [hVp1] at BLp1 Dxp1 Cap1 Cbp1
        obtain ⟨xa0, xa1, xa2, fa0, fa1, fa2⟩ := Cap1.out.cells
        obtain ⟨xb0, xb1, xb2, fb0, fb1, fb2⟩ := Cbp1.out.cells
        obtain ⟨xx0, xx1, xx2, fx0, fx1, fx2⟩ := Dxp1.out.cells
        go_wp2_with fail
        clear hVp1 hx
        clear xa0 xa1 xa2 fa0 fa1 fa2 xb0 xb1 xb2 fb0 fb1 fb2 xx0 xx1 xx2 fx0 fx1 fx2
        have hqp2 := Lib.hid (take_lit cb ab kb k H2.out _ LCB.out Cbp1.out.sh (by omega) (by omega))
        (with_reducible refine hqp2.out.mono ?_)
        clear hqp2
        rintro e wp2 ⟨ap2, kp2, rfl, sp2, bp2⟩
        have Cap2 := Lib.hid ((Cap1.out.below bp2 rfl).below ((Below.refl _ _).alloc (Nat.le_refl _) (.cells #[.int .i64 xb.room, .int .i64 xb.clock, .slice ap2 xb.held.length kp2] TS)) rfl)
        have lap2 := (Cap1.out.below bp2 rfl).lt
        have Cbp2 := Lib.hid ((Cbp1.out.below bp2 rfl).below ((Below.refl _ _).alloc (Nat.le_refl _) (.cells #[.int .i64 xb.room, .int .i64 xb.clock, .slice ap2 xb.held.length kp2] TS)) rfl)
        have lbp2 := (Cbp1.out.below bp2 rfl).lt
        have Cxp2 := Lib.hid ((Dxp1.out.below bp2 rfl).below ((Below.refl _ _).alloc (Nat.le_refl _) (.cells #[.int .i64 xb.room, .int .i64 xb.clock, .slice ap2 xb.held.length kp2] TS)) rfl)
        have lxp2 := (Dxp1.out.below bp2 rfl).lt
        have Cyp2 := CellSh.new sp2
        have BLp2 := Lib.hid ((BLp1.out.trans (bp2.mono BLp1.out.size)).alloc (Nat.le_trans BLp1.out.size bp2.size) (.cells #[.int .i64 xb.room, .int .i64 xb.clock, .slice ap2 xb.held.length kp2] TS))
        have zp2 := Nat.le_trans BLp1.out.size bp2.size
        obtain ⟨By, hy⟩ : ∃ B, wp2.heap.size = B := ⟨_, rfl⟩
        rw [hy] at Cyp2 zp2 lap2 lbp2 lxp2
        have nay : ¬ Ba = By := by omega
        have nya : ¬ By = Ba := by omega
        have nby : ¬ Bb = By := by omega
        have nyb : ¬ By = Bb := by omega
        have nxy : ¬ Bx = By := by omega
        have nyx : ¬ By = Bx := by omega
        have Dyp2 := Lib.hid Cyp2
        clear bp2 sp2 Cyp2
        obtain ⟨Vp2, hVp2⟩ : ∃ V, wp2.alloc (.cells #[.int .i64 xb.room, .int .i64 xb.clock, .slice ap2 xb.held.length kp2] TS) = V := ⟨_, rfl⟩
        rw [hVp2] at BLp2 Dyp2 Cap2 Cbp2 Cxp2
        obtain ⟨xa0, xa1, xa2, fa0, fa1, fa2⟩ := Cap2.out.cells
        obtain ⟨xb0, xb1, xb2, fb0, fb1, fb2⟩ := Cbp2.out.cells
        obtain ⟨xx0, xx1, xx2, fx0, fx1, fx2⟩ := Cxp2.out.cells
        obtain ⟨xy0, xy1, xy2, fy0, fy1, fy2⟩ := Dyp2.out.cells
        have Pbp3 := Lib.hid (Cap2.out.far Cbp2.out nba (.int .i64 xa.room) (.int .i64 xa.clock) (.slice ap1 xa.held.length kp1))
        have Pxp3 := Lib.hid (Cap2.out.far Cxp2.out nxa (.int .i64 xa.room) (.int .i64 xa.clock) (.slice ap1 xa.held.length kp1))
        have Pyp3 := Lib.hid (Cap2.out.far Dyp2.out nya (.int .i64 xa.room) (.int .i64 xa.clock) (.slice ap1 xa.held.length kp1))
        have Pap3 := Lib.hid (Cap2.out.set Cxp2.out.sh)
        have BPp3 := Lib.hid (Below.put3 (B := Ba) BLp2.out (by omega) (.int .i64 xa.room) (.int .i64 xa.clock) (.slice ap1 xa.held.length kp1))
        have Pap4 := Lib.hid (Pbp3.out.far Pap3.out nab (.int .i64 xb.room) (.int .i64 xb.clock) (.slice ap2 xb.held.length kp2))
        have Pxp4 := Lib.hid (Pbp3.out.far Pxp3.out nxb (.int .i64 xb.room) (.int .i64 xb.clock) (.slice ap2 xb.held.length kp2))
        have Pyp4 := Lib.hid (Pbp3.out.far Pyp3.out nyb (.int .i64 xb.room) (.int .i64 xb.clock) (.slice ap2 xb.held.length kp2))
        have Pbp4 := Lib.hid (Pbp3.out.set Pyp3.out.sh)
        have BPp4 := Lib.hid (Below.put3 (B := Bb) BPp3.out (by omega) (.int .i64 xb.room) (.int .i64 xb.clock) (.slice ap2 xb.held.length kp2))
        go_wp2_with fail
        clear hVp2 hy
        clear xa0 xa1 xa2 fa0 fa1 fa2 xb0 xb1 xb2 fb0 fb1 fb2 xx0 xx1 xx2 fx0 fx1 fx2 xy0 xy1 xy2 fy0 fy1 fy2
        have hqp5 := Lib.hid (order_lit xa ap1 kp1 HLA.out _ HXA.out Pap4.out.sh.src)
        (with_reducible refine hqp5.out.mono ?_)
        clear hqp5
        rintro e wp5 ⟨ap, kp, rfl, sp, bp5⟩
        have Qap5 := Lib.hid (Pap4.out.below bp5 rfl)
        have Qbp5 := Lib.hid (Pbp4.out.below bp5 rfl)
        have BQp5 := Lib.hid (BPp4.out.trans (bp5.mono BPp4.out.size))
        have SP := Lib.hid sp.src
        obtain ⟨xa0, xa1, xa2, fa0, fa1, fa2⟩ := Qap5.out.cells
        obtain ⟨xb0, xb1, xb2, fb0, fb1, fb2⟩ := Qbp5.out.cells
        clear bp5 sp
        go_wp2_with fail
        clear xa0 xa1 xa2 fa0 fa1 fa2 xb0 xb1 xb2 fb0 fb1 fb2
        have hqp6 := Lib.hid (order_lit xb ap2 kp2 HLB.out _ HXB.out Qbp5.out.sh.src)
        (with_reducible refine hqp6.out.mono ?_)
        clear hqp6
        rintro e wp6 ⟨aq, kq, rfl, sq, bp6⟩
        have Qap6 := Lib.hid (Qap5.out.below bp6 rfl)
        have Qbp6 := Lib.hid (Qbp5.out.below bp6 rfl)
        have BQp6 := Lib.hid (BQp5.out.trans (bp6.mono BQp5.out.size))
        have SP2 := Lib.hid (SP.out.below bp6)
        have SQ := Lib.hid sq.src
        obtain ⟨gq, hgq, _, _, hcq, _, _⟩ := sq.at_ (by rw [HPR.out.2]; omega)
        subst hgq
        have hp0 := SP2.out 0 (inum k) (by rw [HPR.out.1.1])
        obtain ⟨gp, op, hgp, hcp⟩ := hp0
        subst hgp
        unfold inum at hcp
        rw [HPR.out.2] at hcq
        rw [HPR.out.1.2, HPR.out.2]
        clear bp6 sq
        have SQ2 := Lib.hid (show Kit.Src wp6 (some ⟨gq, 0, none⟩) (LA.map inum) by have h := SQ.out.take P; rw [← List.map_take, HTK.out] at h; exact h)
        have hcp2 : wp6.cell? ⟨gp, op, none⟩ = some (.int .i64 k) := hcp
        have HCP := Lib.hid hcp2
        have hgl := block_lt_of_cell hcp2
        clear hcp hcp2 SP
        have t1 : ((P : Int) == 0) = false := by rw [beq_eq_false_iff_ne]; omega
        have t2 : decide (Q < P) = false := decide_eq_false (by omega)
        have t3 : (k != k) = false := by simp
        go_wp2_with fail
        have hqp7 := Lib.hid (ints_lit (some ⟨gp, op, none⟩) (some ⟨gq, 0, none⟩) kp kq LA HPR.out.1.2 HPR.out.1.2 (by rw [HPR.out.1.2]; omega) wp6 SP2.out SQ2.out)
        (with_reducible refine hqp7.out.mono ?_)
        clear hqp7
        rintro e wp7 ⟨rfl, bp7⟩
        have Qap7 := Lib.hid (Qap6.out.below bp7 rfl)
        have Qbp7 := Lib.hid (Qbp6.out.below bp7 rfl)
        have BQp7 := Lib.hid (BQp6.out.trans (bp7.mono BQp6.out.size))
        have hcp3 : wp7.cell? ⟨gp, op, none⟩ = some (.int .i64 k) := (bp7.cell (p := ⟨gp, op, none⟩) hgl).trans HCP.out
        clear bp7
        go_wp2
        go_roundw
        case rel => exact ⟨j + 1, by omega, by omega, by go_num, Lib.hid ⟨xa, _, _, xb, _, _, Qap7.out, Qbp7.out, HM2.out, BQp7.out⟩⟩
        case measure => simp [intOf]; omega
      · have H1 := Lib.hid h1
        have H2 := Lib.hid h2
        have H3 := Lib.hid h3
        clear h1 h2 h3
        go_wp2_with fail
        clear xa0 xa1 xa2 fa0 fa1 fa2 xb0 xb1 xb2 fb0 fb1 fb2
        have hqp1 := Lib.hid (take_lit ca aa ka k H1.out _ LCA.out CA.out.sh (by omega) (by omega))
        (with_reducible refine hqp1.out.mono ?_)
        clear hqp1
        rintro e wp1 ⟨ap1, kp1, rfl, sp1, bp1⟩
        have Cap1 := Lib.hid ((CA.out.below bp1 rfl).below ((Below.refl _ _).alloc (Nat.le_refl _) (.cells #[.int .i64 z.room, .int .i64 z.clock, .slice ap1 z.held.length kp1] TS)) rfl)
        have lap1 := (CA.out.below bp1 rfl).lt
        have Cbp1 := Lib.hid ((CB.out.below bp1 rfl).below ((Below.refl _ _).alloc (Nat.le_refl _) (.cells #[.int .i64 z.room, .int .i64 z.clock, .slice ap1 z.held.length kp1] TS)) rfl)
        have lbp1 := (CB.out.below bp1 rfl).lt
        have Cxp1 := CellSh.new sp1
        have BLp1 := Lib.hid ((BL.out.trans (bp1.mono BL.out.size)).alloc (Nat.le_trans BL.out.size bp1.size) (.cells #[.int .i64 z.room, .int .i64 z.clock, .slice ap1 z.held.length kp1] TS))
        have zp1 := Nat.le_trans BL.out.size bp1.size
        obtain ⟨Bx, hx⟩ : ∃ B, wp1.heap.size = B := ⟨_, rfl⟩
        rw [hx] at Cxp1 zp1 lap1 lbp1
        have nax : ¬ Ba = Bx := by omega
        have nxa : ¬ Bx = Ba := by omega
        have nbx : ¬ Bb = Bx := by omega
        have nxb : ¬ Bx = Bb := by omega
        have Dxp1 := Lib.hid Cxp1
        clear bp1 sp1 Cxp1
        obtain ⟨Vp1, hVp1⟩ : ∃ V, wp1.alloc (.cells #[.int .i64 z.room, .int .i64 z.clock, .slice ap1 z.held.length kp1] TS) = V := ⟨_, rfl⟩
        rw [hVp1] at BLp1 Dxp1 Cap1 Cbp1
        obtain ⟨xa0, xa1, xa2, fa0, fa1, fa2⟩ := Cap1.out.cells
        obtain ⟨xb0, xb1, xb2, fb0, fb1, fb2⟩ := Cbp1.out.cells
        obtain ⟨xx0, xx1, xx2, fx0, fx1, fx2⟩ := Dxp1.out.cells
        go_wp2_with fail
        clear hVp1 hx
        clear xa0 xa1 xa2 fa0 fa1 fa2 xb0 xb1 xb2 fb0 fb1 fb2 xx0 xx1 xx2 fx0 fx1 fx2
        have hqp2 := Lib.hid (take_lit cb ab kb k H2.out _ LCB.out Cbp1.out.sh (by omega) (by omega))
        (with_reducible refine hqp2.out.mono ?_)
        clear hqp2
        rintro e wp2 ⟨ap2, kp2, rfl, sp2, bp2⟩
        have Cap2 := Lib.hid ((Cap1.out.below bp2 rfl).below ((Below.refl _ _).alloc (Nat.le_refl _) (.cells #[.int .i64 xb.room, .int .i64 xb.clock, .slice ap2 xb.held.length kp2] TS)) rfl)
        have lap2 := (Cap1.out.below bp2 rfl).lt
        have Cbp2 := Lib.hid ((Cbp1.out.below bp2 rfl).below ((Below.refl _ _).alloc (Nat.le_refl _) (.cells #[.int .i64 xb.room, .int .i64 xb.clock, .slice ap2 xb.held.length kp2] TS)) rfl)
        have lbp2 := (Cbp1.out.below bp2 rfl).lt
        have Cxp2 := Lib.hid ((Dxp1.out.below bp2 rfl).below ((Below.refl _ _).alloc (Nat.le_refl _) (.cells #[.int .i64 xb.room, .int .i64 xb.clock, .slice ap2 xb.held.length kp2] TS)) rfl)
        have lxp2 := (Dxp1.out.below bp2 rfl).lt
        have Cyp2 := CellSh.new sp2
        have BLp2 := Lib.hid ((BLp1.out.trans (bp2.mono BLp1.out.size)).alloc (Nat.le_trans BLp1.out.size bp2.size) (.cells #[.int .i64 xb.room, .int .i64 xb.clock, .slice ap2 xb.held.length kp2] TS))
        have zp2 := Nat.le_trans BLp1.out.size bp2.size
        obtain ⟨By, hy⟩ : ∃ B, wp2.heap.size = B := ⟨_, rfl⟩
        rw [hy] at Cyp2 zp2 lap2 lbp2 lxp2
        have nay : ¬ Ba = By := by omega
        have nya : ¬ By = Ba := by omega
        have nby : ¬ Bb = By := by omega
        have nyb : ¬ By = Bb := by omega
        have nxy : ¬ Bx = By := by omega
        have nyx : ¬ By = Bx := by omega
        have Dyp2 := Lib.hid Cyp2
        clear bp2 sp2 Cyp2
        obtain ⟨Vp2, hVp2⟩ : ∃ V, wp2.alloc (.cells #[.int .i64 xb.room, .int .i64 xb.clock, .slice ap2 xb.held.length kp2] TS) = V := ⟨_, rfl⟩
        rw [hVp2] at BLp2 Dyp2 Cap2 Cbp2 Cxp2
        obtain ⟨xa0, xa1, xa2, fa0, fa1, fa2⟩ := Cap2.out.cells
        obtain ⟨xb0, xb1, xb2, fb0, fb1, fb2⟩ := Cbp2.out.cells
        obtain ⟨xx0, xx1, xx2, fx0, fx1, fx2⟩ := Cxp2.out.cells
        obtain ⟨xy0, xy1, xy2, fy0, fy1, fy2⟩ := Dyp2.out.cells
        go_wp2_with fail
        clear hVp2 hy
        clear xa0 xa1 xa2 fa0 fa1 fa2 xb0 xb1 xb2 fb0 fb1 fb2 xx0 xx1 xx2 fx0 fx1 fx2 xy0 xy1 xy2 fy0 fy1 fy2
        have hqp3 := Lib.hid (keep_lit ca aa ka k ⟨#[116]⟩ H3.out _ LCA.out Cap2.out.sh (by omega) (by omega))
        (with_reducible refine hqp3.out.mono ?_)
        clear hqp3
        rintro e wp3 ⟨ap3, kp3, rfl, sp3, bp3⟩
        have Eap3 := Lib.hid (Cap2.out.below bp3 rfl)
        have Ebp3 := Lib.hid (Cbp2.out.below bp3 rfl)
        have Exp3 := Lib.hid (Cxp2.out.below bp3 rfl)
        have Eyp3 := Lib.hid (Dyp2.out.below bp3 rfl)
        have BEp3 := Lib.hid (BLp2.out.trans (bp3.mono BLp2.out.size))
        have Sp3 := Lib.hid sp3
        clear bp3 sp3
        obtain ⟨xa0, xa1, xa2, fa0, fa1, fa2⟩ := Eap3.out.cells
        obtain ⟨xb0, xb1, xb2, fb0, fb1, fb2⟩ := Ebp3.out.cells
        obtain ⟨xx0, xx1, xx2, fx0, fx1, fx2⟩ := Exp3.out.cells
        obtain ⟨xy0, xy1, xy2, fy0, fy1, fy2⟩ := Eyp3.out.cells
        have Pap4 := Lib.hid (Exp3.out.far Eap3.out nax (.int .i64 xa.room) (.int .i64 xa.clock) (.slice ap3 xa.held.length kp3))
        have Pbp4 := Lib.hid (Exp3.out.far Ebp3.out nbx (.int .i64 xa.room) (.int .i64 xa.clock) (.slice ap3 xa.held.length kp3))
        have Pyp4 := Lib.hid (Exp3.out.far Eyp3.out nyx (.int .i64 xa.room) (.int .i64 xa.clock) (.slice ap3 xa.held.length kp3))
        have Pxp4 := Lib.hid (Exp3.out.set Sp3.out)
        have BPp4 := Lib.hid (Below.put3 (B := Bx) BEp3.out (by omega) (.int .i64 xa.room) (.int .i64 xa.clock) (.slice ap3 xa.held.length kp3))
        have Pbp5 := Lib.hid (Pap4.out.far Pbp4.out nba (.int .i64 xa.room) (.int .i64 xa.clock) (.slice ap3 xa.held.length kp3))
        have Pxp5 := Lib.hid (Pap4.out.far Pxp4.out nxa (.int .i64 xa.room) (.int .i64 xa.clock) (.slice ap3 xa.held.length kp3))
        have Pyp5 := Lib.hid (Pap4.out.far Pyp4.out nya (.int .i64 xa.room) (.int .i64 xa.clock) (.slice ap3 xa.held.length kp3))
        have Pap5 := Lib.hid (Pap4.out.set Pxp4.out.sh)
        have BPp5 := Lib.hid (Below.put3 (B := Ba) BPp4.out (by omega) (.int .i64 xa.room) (.int .i64 xa.clock) (.slice ap3 xa.held.length kp3))
        have Pap6 := Lib.hid (Pbp5.out.far Pap5.out nab (.int .i64 xb.room) (.int .i64 xb.clock) (.slice ap2 xb.held.length kp2))
        have Pxp6 := Lib.hid (Pbp5.out.far Pxp5.out nxb (.int .i64 xb.room) (.int .i64 xb.clock) (.slice ap2 xb.held.length kp2))
        have Pyp6 := Lib.hid (Pbp5.out.far Pyp5.out nyb (.int .i64 xb.room) (.int .i64 xb.clock) (.slice ap2 xb.held.length kp2))
        have Pbp6 := Lib.hid (Pbp5.out.set Pyp5.out.sh)
        have BPp6 := Lib.hid (Below.put3 (B := Bb) BPp5.out (by omega) (.int .i64 xb.room) (.int .i64 xb.clock) (.slice ap2 xb.held.length kp2))
        go_wp2_with fail
        clear xa0 xa1 xa2 fa0 fa1 fa2 xb0 xb1 xb2 fb0 fb1 fb2 xx0 xx1 xx2 fx0 fx1 fx2 xy0 xy1 xy2 fy0 fy1 fy2
        have hqp7 := Lib.hid (order_lit xa ap3 kp3 HLA.out _ HXA.out Pap6.out.sh.src)
        (with_reducible refine hqp7.out.mono ?_)
        clear hqp7
        rintro e wp7 ⟨ap, kp, rfl, sp, bp7⟩
        have Qap7 := Lib.hid (Pap6.out.below bp7 rfl)
        have Qbp7 := Lib.hid (Pbp6.out.below bp7 rfl)
        have BQp7 := Lib.hid (BPp6.out.trans (bp7.mono BPp6.out.size))
        have SP := Lib.hid sp.src
        obtain ⟨xa0, xa1, xa2, fa0, fa1, fa2⟩ := Qap7.out.cells
        obtain ⟨xb0, xb1, xb2, fb0, fb1, fb2⟩ := Qbp7.out.cells
        clear bp7 sp
        go_wp2_with fail
        clear xa0 xa1 xa2 fa0 fa1 fa2 xb0 xb1 xb2 fb0 fb1 fb2
        have hqp8 := Lib.hid (order_lit xb ap2 kp2 HLB.out _ HXB.out Qbp7.out.sh.src)
        (with_reducible refine hqp8.out.mono ?_)
        clear hqp8
        rintro e wp8 ⟨aq, kq, rfl, sq, bp8⟩
        have Qap8 := Lib.hid (Qap7.out.below bp8 rfl)
        have Qbp8 := Lib.hid (Qbp7.out.below bp8 rfl)
        have BQp8 := Lib.hid (BQp7.out.trans (bp8.mono BQp7.out.size))
        have SP2 := Lib.hid (SP.out.below bp8)
        have SQ := Lib.hid sq.src
        obtain ⟨gq, hgq, _, _, hcq, _, _⟩ := sq.at_ (by rw [HPR.out.2]; omega)
        subst hgq
        have hp0 := SP2.out 0 (inum k) (by rw [HPR.out.1.1])
        obtain ⟨gp, op, hgp, hcp⟩ := hp0
        subst hgp
        unfold inum at hcp
        rw [HPR.out.2] at hcq
        rw [HPR.out.1.2, HPR.out.2]
        clear bp8 sq
        have SQ2 := Lib.hid (show Kit.Src wp8 (some ⟨gq, 0, none⟩) (LA.map inum) by have h := SQ.out.take P; rw [← List.map_take, HTK.out] at h; exact h)
        have hcp2 : wp8.cell? ⟨gp, op, none⟩ = some (.int .i64 k) := hcp
        have HCP := Lib.hid hcp2
        have hgl := block_lt_of_cell hcp2
        clear hcp hcp2 SP
        have t1 : ((P : Int) == 0) = false := by rw [beq_eq_false_iff_ne]; omega
        have t2 : decide (Q < P) = false := decide_eq_false (by omega)
        have t3 : (k != k) = false := by simp
        go_wp2_with fail
        have hqp9 := Lib.hid (ints_lit (some ⟨gp, op, none⟩) (some ⟨gq, 0, none⟩) kp kq LA HPR.out.1.2 HPR.out.1.2 (by rw [HPR.out.1.2]; omega) wp8 SP2.out SQ2.out)
        (with_reducible refine hqp9.out.mono ?_)
        clear hqp9
        rintro e wp9 ⟨rfl, bp9⟩
        have Qap9 := Lib.hid (Qap8.out.below bp9 rfl)
        have Qbp9 := Lib.hid (Qbp8.out.below bp9 rfl)
        have BQp9 := Lib.hid (BQp8.out.trans (bp9.mono BQp8.out.size))
        have hcp3 : wp9.cell? ⟨gp, op, none⟩ = some (.int .i64 k) := (bp9.cell (p := ⟨gp, op, none⟩) hgl).trans HCP.out
        clear bp9
        go_wp2
        go_roundw
        case rel => exact ⟨j + 1, by omega, by omega, by go_num, Lib.hid ⟨xa, _, _, xb, _, _, Qap9.out, Qbp9.out, HM2.out, BQp9.out⟩⟩
        case measure => simp [intOf]; omega
      · have H1 := Lib.hid h1
        have H2 := Lib.hid h2
        have H3 := Lib.hid h3
        have H4 := Lib.hid h4
        clear h1 h2 h3 h4
        go_wp2_with fail
        clear xa0 xa1 xa2 fa0 fa1 fa2 xb0 xb1 xb2 fb0 fb1 fb2
        have hqp1 := Lib.hid (take_lit ca aa ka k H1.out _ LCA.out CA.out.sh (by omega) (by omega))
        (with_reducible refine hqp1.out.mono ?_)
        clear hqp1
        rintro e wp1 ⟨ap1, kp1, rfl, sp1, bp1⟩
        have Cap1 := Lib.hid ((CA.out.below bp1 rfl).below ((Below.refl _ _).alloc (Nat.le_refl _) (.cells #[.int .i64 z.room, .int .i64 z.clock, .slice ap1 z.held.length kp1] TS)) rfl)
        have lap1 := (CA.out.below bp1 rfl).lt
        have Cbp1 := Lib.hid ((CB.out.below bp1 rfl).below ((Below.refl _ _).alloc (Nat.le_refl _) (.cells #[.int .i64 z.room, .int .i64 z.clock, .slice ap1 z.held.length kp1] TS)) rfl)
        have lbp1 := (CB.out.below bp1 rfl).lt
        have Cxp1 := CellSh.new sp1
        have BLp1 := Lib.hid ((BL.out.trans (bp1.mono BL.out.size)).alloc (Nat.le_trans BL.out.size bp1.size) (.cells #[.int .i64 z.room, .int .i64 z.clock, .slice ap1 z.held.length kp1] TS))
        have zp1 := Nat.le_trans BL.out.size bp1.size
        obtain ⟨Bx, hx⟩ : ∃ B, wp1.heap.size = B := ⟨_, rfl⟩
        rw [hx] at Cxp1 zp1 lap1 lbp1
        have nax : ¬ Ba = Bx := by omega
        have nxa : ¬ Bx = Ba := by omega
        have nbx : ¬ Bb = Bx := by omega
        have nxb : ¬ Bx = Bb := by omega
        have Dxp1 := Lib.hid Cxp1
        clear bp1 sp1 Cxp1
        obtain ⟨Vp1, hVp1⟩ : ∃ V, wp1.alloc (.cells #[.int .i64 z.room, .int .i64 z.clock, .slice ap1 z.held.length kp1] TS) = V := ⟨_, rfl⟩
        rw [hVp1] at BLp1 Dxp1 Cap1 Cbp1
        obtain ⟨xa0, xa1, xa2, fa0, fa1, fa2⟩ := Cap1.out.cells
        obtain ⟨xb0, xb1, xb2, fb0, fb1, fb2⟩ := Cbp1.out.cells
        obtain ⟨xx0, xx1, xx2, fx0, fx1, fx2⟩ := Dxp1.out.cells
        go_wp2_with fail
        clear hVp1 hx
        clear xa0 xa1 xa2 fa0 fa1 fa2 xb0 xb1 xb2 fb0 fb1 fb2 xx0 xx1 xx2 fx0 fx1 fx2
        have hqp2 := Lib.hid (take_lit cb ab kb k H2.out _ LCB.out Cbp1.out.sh (by omega) (by omega))
        (with_reducible refine hqp2.out.mono ?_)
        clear hqp2
        rintro e wp2 ⟨ap2, kp2, rfl, sp2, bp2⟩
        have Cap2 := Lib.hid ((Cap1.out.below bp2 rfl).below ((Below.refl _ _).alloc (Nat.le_refl _) (.cells #[.int .i64 z'.room, .int .i64 z'.clock, .slice ap2 z'.held.length kp2] TS)) rfl)
        have lap2 := (Cap1.out.below bp2 rfl).lt
        have Cbp2 := Lib.hid ((Cbp1.out.below bp2 rfl).below ((Below.refl _ _).alloc (Nat.le_refl _) (.cells #[.int .i64 z'.room, .int .i64 z'.clock, .slice ap2 z'.held.length kp2] TS)) rfl)
        have lbp2 := (Cbp1.out.below bp2 rfl).lt
        have Cxp2 := Lib.hid ((Dxp1.out.below bp2 rfl).below ((Below.refl _ _).alloc (Nat.le_refl _) (.cells #[.int .i64 z'.room, .int .i64 z'.clock, .slice ap2 z'.held.length kp2] TS)) rfl)
        have lxp2 := (Dxp1.out.below bp2 rfl).lt
        have Cyp2 := CellSh.new sp2
        have BLp2 := Lib.hid ((BLp1.out.trans (bp2.mono BLp1.out.size)).alloc (Nat.le_trans BLp1.out.size bp2.size) (.cells #[.int .i64 z'.room, .int .i64 z'.clock, .slice ap2 z'.held.length kp2] TS))
        have zp2 := Nat.le_trans BLp1.out.size bp2.size
        obtain ⟨By, hy⟩ : ∃ B, wp2.heap.size = B := ⟨_, rfl⟩
        rw [hy] at Cyp2 zp2 lap2 lbp2 lxp2
        have nay : ¬ Ba = By := by omega
        have nya : ¬ By = Ba := by omega
        have nby : ¬ Bb = By := by omega
        have nyb : ¬ By = Bb := by omega
        have nxy : ¬ Bx = By := by omega
        have nyx : ¬ By = Bx := by omega
        have Dyp2 := Lib.hid Cyp2
        clear bp2 sp2 Cyp2
        obtain ⟨Vp2, hVp2⟩ : ∃ V, wp2.alloc (.cells #[.int .i64 z'.room, .int .i64 z'.clock, .slice ap2 z'.held.length kp2] TS) = V := ⟨_, rfl⟩
        rw [hVp2] at BLp2 Dyp2 Cap2 Cbp2 Cxp2
        obtain ⟨xa0, xa1, xa2, fa0, fa1, fa2⟩ := Cap2.out.cells
        obtain ⟨xb0, xb1, xb2, fb0, fb1, fb2⟩ := Cbp2.out.cells
        obtain ⟨xx0, xx1, xx2, fx0, fx1, fx2⟩ := Cxp2.out.cells
        obtain ⟨xy0, xy1, xy2, fy0, fy1, fy2⟩ := Dyp2.out.cells
        go_wp2_with fail
        clear hVp2 hy
        clear xa0 xa1 xa2 fa0 fa1 fa2 xb0 xb1 xb2 fb0 fb1 fb2 xx0 xx1 xx2 fx0 fx1 fx2 xy0 xy1 xy2 fy0 fy1 fy2
        have hqp3 := Lib.hid (keep_lit ca aa ka k ⟨#[116]⟩ H3.out _ LCA.out Cap2.out.sh (by omega) (by omega))
        (with_reducible refine hqp3.out.mono ?_)
        clear hqp3
        rintro e wp3 ⟨ap3, kp3, rfl, sp3, bp3⟩
        have Eap3 := Lib.hid (Cap2.out.below bp3 rfl)
        have Ebp3 := Lib.hid (Cbp2.out.below bp3 rfl)
        have Exp3 := Lib.hid (Cxp2.out.below bp3 rfl)
        have Eyp3 := Lib.hid (Dyp2.out.below bp3 rfl)
        have BEp3 := Lib.hid (BLp2.out.trans (bp3.mono BLp2.out.size))
        have Sp3 := Lib.hid sp3
        clear bp3 sp3
        obtain ⟨xa0, xa1, xa2, fa0, fa1, fa2⟩ := Eap3.out.cells
        obtain ⟨xb0, xb1, xb2, fb0, fb1, fb2⟩ := Ebp3.out.cells
        obtain ⟨xx0, xx1, xx2, fx0, fx1, fx2⟩ := Exp3.out.cells
        obtain ⟨xy0, xy1, xy2, fy0, fy1, fy2⟩ := Eyp3.out.cells
        have Pap4 := Lib.hid (Exp3.out.far Eap3.out nax (.int .i64 xa.room) (.int .i64 xa.clock) (.slice ap3 xa.held.length kp3))
        have Pbp4 := Lib.hid (Exp3.out.far Ebp3.out nbx (.int .i64 xa.room) (.int .i64 xa.clock) (.slice ap3 xa.held.length kp3))
        have Pyp4 := Lib.hid (Exp3.out.far Eyp3.out nyx (.int .i64 xa.room) (.int .i64 xa.clock) (.slice ap3 xa.held.length kp3))
        have Pxp4 := Lib.hid (Exp3.out.set Sp3.out)
        have BPp4 := Lib.hid (Below.put3 (B := Bx) BEp3.out (by omega) (.int .i64 xa.room) (.int .i64 xa.clock) (.slice ap3 xa.held.length kp3))
        go_wp2_with fail
        clear xa0 xa1 xa2 fa0 fa1 fa2 xb0 xb1 xb2 fb0 fb1 fb2 xx0 xx1 xx2 fx0 fx1 fx2 xy0 xy1 xy2 fy0 fy1 fy2
        have hqp5 := Lib.hid (keep_lit cb ab kb k ⟨#[116]⟩ H4.out _ LCB.out Pbp4.out.sh (by omega) (by omega))
        (with_reducible refine hqp5.out.mono ?_)
        clear hqp5
        rintro e wp5 ⟨ap5, kp5, rfl, sp5, bp5⟩
        have Eap5 := Lib.hid (Pap4.out.below bp5 rfl)
        have Ebp5 := Lib.hid (Pbp4.out.below bp5 rfl)
        have Exp5 := Lib.hid (Pxp4.out.below bp5 rfl)
        have Eyp5 := Lib.hid (Pyp4.out.below bp5 rfl)
        have BEp5 := Lib.hid (BPp4.out.trans (bp5.mono BPp4.out.size))
        have Sp5 := Lib.hid sp5
        clear bp5 sp5
        obtain ⟨xa0, xa1, xa2, fa0, fa1, fa2⟩ := Eap5.out.cells
        obtain ⟨xb0, xb1, xb2, fb0, fb1, fb2⟩ := Ebp5.out.cells
        obtain ⟨xx0, xx1, xx2, fx0, fx1, fx2⟩ := Exp5.out.cells
        obtain ⟨xy0, xy1, xy2, fy0, fy1, fy2⟩ := Eyp5.out.cells
        have Pap6 := Lib.hid (Eyp5.out.far Eap5.out nay (.int .i64 xb.room) (.int .i64 xb.clock) (.slice ap5 xb.held.length kp5))
        have Pbp6 := Lib.hid (Eyp5.out.far Ebp5.out nby (.int .i64 xb.room) (.int .i64 xb.clock) (.slice ap5 xb.held.length kp5))
        have Pxp6 := Lib.hid (Eyp5.out.far Exp5.out nxy (.int .i64 xb.room) (.int .i64 xb.clock) (.slice ap5 xb.held.length kp5))
        have Pyp6 := Lib.hid (Eyp5.out.set Sp5.out)
        have BPp6 := Lib.hid (Below.put3 (B := By) BEp5.out (by omega) (.int .i64 xb.room) (.int .i64 xb.clock) (.slice ap5 xb.held.length kp5))
        have Pbp7 := Lib.hid (Pap6.out.far Pbp6.out nba (.int .i64 xa.room) (.int .i64 xa.clock) (.slice ap3 xa.held.length kp3))
        have Pxp7 := Lib.hid (Pap6.out.far Pxp6.out nxa (.int .i64 xa.room) (.int .i64 xa.clock) (.slice ap3 xa.held.length kp3))
        have Pyp7 := Lib.hid (Pap6.out.far Pyp6.out nya (.int .i64 xa.room) (.int .i64 xa.clock) (.slice ap3 xa.held.length kp3))
        have Pap7 := Lib.hid (Pap6.out.set Pxp6.out.sh)
        have BPp7 := Lib.hid (Below.put3 (B := Ba) BPp6.out (by omega) (.int .i64 xa.room) (.int .i64 xa.clock) (.slice ap3 xa.held.length kp3))
        have Pap8 := Lib.hid (Pbp7.out.far Pap7.out nab (.int .i64 xb.room) (.int .i64 xb.clock) (.slice ap5 xb.held.length kp5))
        have Pxp8 := Lib.hid (Pbp7.out.far Pxp7.out nxb (.int .i64 xb.room) (.int .i64 xb.clock) (.slice ap5 xb.held.length kp5))
        have Pyp8 := Lib.hid (Pbp7.out.far Pyp7.out nyb (.int .i64 xb.room) (.int .i64 xb.clock) (.slice ap5 xb.held.length kp5))
        have Pbp8 := Lib.hid (Pbp7.out.set Pyp7.out.sh)
        have BPp8 := Lib.hid (Below.put3 (B := Bb) BPp7.out (by omega) (.int .i64 xb.room) (.int .i64 xb.clock) (.slice ap5 xb.held.length kp5))
        go_wp2_with fail
        clear xa0 xa1 xa2 fa0 fa1 fa2 xb0 xb1 xb2 fb0 fb1 fb2 xx0 xx1 xx2 fx0 fx1 fx2 xy0 xy1 xy2 fy0 fy1 fy2
        have hqp9 := Lib.hid (order_lit xa ap3 kp3 HLA.out _ HXA.out Pap8.out.sh.src)
        (with_reducible refine hqp9.out.mono ?_)
        clear hqp9
        rintro e wp9 ⟨ap, kp, rfl, sp, bp9⟩
        have Qap9 := Lib.hid (Pap8.out.below bp9 rfl)
        have Qbp9 := Lib.hid (Pbp8.out.below bp9 rfl)
        have BQp9 := Lib.hid (BPp8.out.trans (bp9.mono BPp8.out.size))
        have SP := Lib.hid sp.src
        obtain ⟨xa0, xa1, xa2, fa0, fa1, fa2⟩ := Qap9.out.cells
        obtain ⟨xb0, xb1, xb2, fb0, fb1, fb2⟩ := Qbp9.out.cells
        clear bp9 sp
        go_wp2_with fail
        clear xa0 xa1 xa2 fa0 fa1 fa2 xb0 xb1 xb2 fb0 fb1 fb2
        have hqp10 := Lib.hid (order_lit xb ap5 kp5 HLB.out _ HXB.out Qbp9.out.sh.src)
        (with_reducible refine hqp10.out.mono ?_)
        clear hqp10
        rintro e wp10 ⟨aq, kq, rfl, sq, bp10⟩
        have Qap10 := Lib.hid (Qap9.out.below bp10 rfl)
        have Qbp10 := Lib.hid (Qbp9.out.below bp10 rfl)
        have BQp10 := Lib.hid (BQp9.out.trans (bp10.mono BQp9.out.size))
        have SP2 := Lib.hid (SP.out.below bp10)
        have SQ := Lib.hid sq.src
        obtain ⟨gq, hgq, _, _, hcq, _, _⟩ := sq.at_ (by rw [HPR.out.2]; omega)
        subst hgq
        have hp0 := SP2.out 0 (inum k) (by rw [HPR.out.1.1])
        obtain ⟨gp, op, hgp, hcp⟩ := hp0
        subst hgp
        unfold inum at hcp
        rw [HPR.out.2] at hcq
        rw [HPR.out.1.2, HPR.out.2]
        clear bp10 sq
        have SQ2 := Lib.hid (show Kit.Src wp10 (some ⟨gq, 0, none⟩) (LA.map inum) by have h := SQ.out.take P; rw [← List.map_take, HTK.out] at h; exact h)
        have hcp2 : wp10.cell? ⟨gp, op, none⟩ = some (.int .i64 k) := hcp
        have HCP := Lib.hid hcp2
        have hgl := block_lt_of_cell hcp2
        clear hcp hcp2 SP
        have t1 : ((P : Int) == 0) = false := by rw [beq_eq_false_iff_ne]; omega
        have t2 : decide (Q < P) = false := decide_eq_false (by omega)
        have t3 : (k != k) = false := by simp
        go_wp2_with fail
        have hqp11 := Lib.hid (ints_lit (some ⟨gp, op, none⟩) (some ⟨gq, 0, none⟩) kp kq LA HPR.out.1.2 HPR.out.1.2 (by rw [HPR.out.1.2]; omega) wp10 SP2.out SQ2.out)
        (with_reducible refine hqp11.out.mono ?_)
        clear hqp11
        rintro e wp11 ⟨rfl, bp11⟩
        have Qap11 := Lib.hid (Qap10.out.below bp11 rfl)
        have Qbp11 := Lib.hid (Qbp10.out.below bp11 rfl)
        have BQp11 := Lib.hid (BQp10.out.trans (bp11.mono BQp10.out.size))
        have hcp3 : wp11.cell? ⟨gp, op, none⟩ = some (.int .i64 k) := (bp11.cell (p := ⟨gp, op, none⟩) hgl).trans HCP.out
        clear bp11
        go_wp2
        go_roundw
        case rel => exact ⟨j + 1, by omega, by omega, by go_num, Lib.hid ⟨xa, _, _, xb, _, _, Qap11.out, Qbp11.out, HM2.out, BQp11.out⟩⟩
        case measure => simp [intOf]; omega
    · have h3 : ¬ j < len2 ∨ (j < len2 ∧ ¬ j < 60) := by
        by_cases h1 : j < len2
        · exact .inr ⟨h1, fun h => hc ⟨h1, h⟩⟩
        · exact .inl h1
      clear hc
      rcases h3 with h | ⟨h, h'⟩
      all_goals
        go_wp2
        go_ret
        exact ⟨rfl, BL.out⟩

set_option maxRecDepth 100000 in
set_option maxHeartbeats 400000 in
theorem lifted (os : Os) (started : os.Started) (H : Type) (enc : TypeId × Value → H) :
    ReturnsInHanded {} Try.checked os 5 .any (Rows.cacheMoreSpec.pre6 enc Try.prog Try.f5 Rows.cacheMoreRow.domain false) (Rows.cacheMoreSpec.post enc Try.prog Try.f5 false true false false) := by
  refine returnsInHanded_of_change (C := Try.checked) own started (by kernel_rfl) Try.func5
    (ChangeSpec.witness6 (enc := enc) (C := Try.checked) false ⟨#[], #[.int .i64 0, .int .i64 0, .slice none 0 0], []⟩ 8 (by kernel_rfl) (by kernel_rfl) (by kernel_rfl) (by kernel_rfl)) ?_
  intro W base args ds gs before hval0 hW hcnd _
  have hval : ∀ (j : Nat) t v, Try.f5.params[j]? = some t → args[j]? = some v → Value.okWide Try.prog W .any base t v := hval0
  have hW' := hW
  obtain ⟨p, q, hA0, hV, rfl, hfz, hnd⟩ := hW
  have hA : DataW.TrodAll enc Try.prog W 0 (fun _ => true) true Try.f5.params.toList args.toList ds p := hA0
  rw [Try.params5] at hA hval
  obtain ⟨v0, vs0, d0, ds0, p0, q0, hargs, rfl, rfl, h0, r0⟩ := trodAll_cons hA
  obtain ⟨v1, vs1, d1, ds1, p1, q1, rfl, rfl, rfl, h1, r1⟩ := trodAll_cons r0
  obtain ⟨v2, vs2, d2, ds2, p2, q2, rfl, rfl, rfl, h2, r2⟩ := trodAll_cons r1
  obtain ⟨rfl, rfl, rfl⟩ := trodAll_nil r2
  obtain rfl : args = #[v0, v1, v2] := by cases args; simp_all
  obtain ⟨rfl, rfl⟩ := trodVars_none hV
  obtain ⟨a0, rfl, rfl, rfl, w0⟩ := open_int Try.underlying3 (hval 0 3 v0 rfl rfl) h0
  obtain ⟨a1, rfl, rfl, rfl, w1⟩ := open_int Try.underlying3 (hval 1 3 v1 rfl rfl) h1
  obtain ⟨a2, len2, cap2, rfl⟩ := okWide_slice Try.underlying28 (hval 2 28 v2 rfl rfl)
  have k2 := h2
  have lt2 : ∀ x ∈ p2, x.block < W.heap.size := by obtain ⟨m, hm⟩ := k2; exact DataW.trod_lt m _ _ _ hm
  obtain ⟨z2, w2⟩ : ∃ zs, IsRow .i64 W a2 len2 cap2 zs := by
    obtain ⟨fuel, hf⟩ := h2
    rcases open_ints Try.underlying28 Try.underlying3 (by kernel_rfl) hf with ⟨hcs, _⟩ | ⟨x, l, c, zs, hcs, _, hl, hm, hz, _, hcell, hwz⟩
    · simp [Value.cells] at hcs
      obtain ⟨rfl, rfl, rfl⟩ := hcs
      exact ⟨[], .inl ⟨rfl, rfl, rfl, rfl⟩⟩
    · simp [Value.cells] at hcs
      obtain ⟨rfl, rfl, rfl⟩ := hcs
      exact ⟨zs, .inr ⟨_, rfl, hl, hm, by simpa using hz, hcell, hwz⟩⟩
  clear hA0 hval0
  refine (walk a0 a1 a2 len2 cap2 z2 W w0 w1 w2).mono fun e W' ⟨he, bel⟩ => ?_
  subst he
  exact ⟨_, rfl, _, _, _, [], _, [], hW', trodAll_mk1 (shut_bool Try.underlying4 _), (trodAll_cons_mk (shut_int Try.underlying3 w0) (trodAll_cons_mk (shut_int Try.underlying3 w1) (trodAll_cons_mk (Below.trod laidOut (by kernel_rfl) (of_decide_eq_true (by kernel_rfl)) k2 bel lt2) trodAll_mk0))), rfl, bel.frame _, fun h => by cases h⟩

theorem over : Rows.cacheMoreRow.holds Try.pinned (OpenSpec.ofChange Rows.cacheMoreSpec) :=
  OpenClaim.holds_of_wide 5 Try.f5 rfl rfl rfl rfl rfl rfl rfl ⟨rfl, rfl, rfl, rfl, rfl⟩ rfl rfl rfl rfl rfl (by kernel_rfl) Try.func5 (by kernel_rfl)
    (of_decide_eq_true (by kernel_rfl)) (by unfold Func.isWrapper; first | (rw [if_pos (by decide +kernel)]; kernel_rfl) | (rw [if_neg (by decide +kernel)]; exact ⟨rfl, rfl⟩))
    (fun os started H enc _ => lifted os started H enc)

theorem proved : Rows.CacheMoreSaid := over
#print axioms proved
end Go.Proofs.Ytpkhafijmbgcnaa.cacheMore
