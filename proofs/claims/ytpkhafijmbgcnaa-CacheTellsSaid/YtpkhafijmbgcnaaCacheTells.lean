/-
  The law CacheTells of chapter 21 returns true: which shelves may be, what they hold, what is taken, and kept, is as the document says.
  For every input: no condition.
-/
import Derived.Test.YtpkhafijmbgcnaaRows
import Derived.Test.YtpkhafijmbgcnaaDLaw2
import Derived.Test.YtpkhafijmbgcnaaCArg
import Derived.Test.YtpkhafijmbgcnaaTurned
import Derived.WalkLawsBesides
import Derived.WalkSpells
import Derived.Lib.Hide
import Derived.BigQuiet
import Derived.WalkKit
import Derived.ProofKit
import Derived.OpenShut
import Derived.ShutString
import Derived.ChangeOld
import Derived.Below
import Derived.Test.YtpkhafijmbgcnaaKit
namespace Go.Proofs.Ytpkhafijmbgcnaa.cacheTells
set_option linter.unusedVariables false
open Go.RowKit
open Cache Go.Shelf
open Go.ChangeShapes Go.WideShapes Go.ChangeAt Go.RowKit
open Go.ChangeMaps (open_string shut_string)

theorem own : ownKnob Try.prog.godebug = none := by kernel_rfl
theorem laidOut : laidOutB Try.prog = true := by kernel_rfl

def two (x y : Int) (t : Nat) : Int := if t = 0 then x else y
theorem two_at (w : World) (x y : Int) (t : Nat) (ht : t < 2) : (w.alloc (.cells #[.int .i64 x, .int .i64 y] TI)).cell? ⟨w.heap.size, t, none⟩ = some (.int .i64 (two x y t)) := by
  match t, ht with
  | 0, _ => simp [two]
  | 1, _ => simp [two]
theorem two_lo {x y : Int} {t : Nat} (hx : -9223372036854775808 ≤ x) (hy : -9223372036854775808 ≤ y) : -9223372036854775808 ≤ two x y t := by unfold two; split <;> assumption
theorem two_hi {x y : Int} {t : Nat} (hx : x ≤ 9223372036854775807) (hy : y ≤ 9223372036854775807) : two x y t ≤ 9223372036854775807 := by unfold two; split <;> assumption
theorem put_le (h : Hd) : ∀ l : List Hd, (put h l).length ≤ l.length + 1
  | [] => by simp [put]
  | y :: r => by
    have ih := put_le h r
    unfold put
    split
    · simp only [List.length_cons]; omega
    · split <;> simp only [List.length_cons] <;> omega
theorem take_le (c : Sh) (b : Int) : (Cache.take c b).2.1.held.length ≤ c.held.length + 1 := by
  unfold Cache.take
  split
  · split
    · exact Nat.zero_le _
    · split
      · exact Nat.zero_le _
      · exact put_le _ _
  · exact Nat.zero_le _
theorem keep_le (c : Sh) (b : Int) (t : ByteArray) : (Cache.keep c b t).2.1.held.length ≤ c.held.length + 1 := by
  unfold Cache.keep
  split
  · split
    · exact Nat.zero_le _
    · refine Nat.le_trans (put_le _ _) ?_
      have : (drop (goes c b) c.held).length ≤ c.held.length := by unfold drop; exact List.length_filter_le _ _
      show (drop (goes c b) c.held).length + 1 ≤ _
      omega
  · exact Nat.zero_le _
/-- Three shelves side by side. -/
def Three (w : World) (B : Nat) : Prop := ∀ k, k < 3 → ∃ c a q, w.cell? ⟨B, k * 3, none⟩ = some (.int .i64 c.room) ∧ w.cell? ⟨B, k * 3 + 1, none⟩ = some (.int .i64 c.clock) ∧ w.cell? ⟨B, k * 3 + 2, none⟩ = some (.slice a c.held.length q) ∧ ShW w c a q ∧ c.held.length ≤ 1000
theorem Three.below {w w' : World} {B D : Nat} (h : Three w B) (hb : Below D w w') (hD : D = w.heap.size) : Three w' B := by
  intro k hk
  obtain ⟨c, a, q, h0, h1, h2, h3, h4⟩ := h k hk
  subst hD
  exact ⟨c, a, q, by rw [hb.cell (p := ⟨B, k * 3, none⟩) (block_lt_of_cell h0)]; exact h0, by rw [hb.cell (p := ⟨B, k * 3 + 1, none⟩) (block_lt_of_cell h1)]; exact h1, by rw [hb.cell (p := ⟨B, k * 3 + 2, none⟩) (block_lt_of_cell h2)]; exact h2, h3.below hb rfl, h4⟩
theorem Three.new {w : World} {c d e : Sh} {a b f : Option Addr} {p q r : Nat} (h1 : ShW w c a p) (h2 : ShW w d b q) (h3 : ShW w e f r) (l1 : c.held.length ≤ 1000) (l2 : d.held.length ≤ 1000) (l3 : e.held.length ≤ 1000) (t : TypeId) :
    Three (w.alloc (.cells #[.int .i64 c.room, .int .i64 c.clock, .slice a c.held.length p, .int .i64 d.room, .int .i64 d.clock, .slice b d.held.length q, .int .i64 e.room, .int .i64 e.clock, .slice f e.held.length r] t)) w.heap.size := by
  intro k hk
  have hb : Below w.heap.size w (w.alloc (.cells #[.int .i64 c.room, .int .i64 c.clock, .slice a c.held.length p, .int .i64 d.room, .int .i64 d.clock, .slice b d.held.length q, .int .i64 e.room, .int .i64 e.clock, .slice f e.held.length r] t)) := (Below.refl _ _).alloc (Nat.le_refl _) _
  match k, hk with
  | 0, _ => exact ⟨c, a, p, by simp, by simp, by simp, h1.below hb rfl, l1⟩
  | 1, _ => exact ⟨d, b, q, by simp, by simp, by simp, h2.below hb rfl, l2⟩
  | 2, _ => exact ⟨e, f, r, by simp, by simp, by simp, h3.below hb rfl, l3⟩
theorem same_lit (c : Sh) (a b : Option Addr) (ka kb : Nat) (w : World) (hm : c.held.length ≤ 1000000) (h1 : HSrc w a c.held) (h2 : HSrc w b c.held) :
    Calls Try.prog 13 #[.agg #[.int .i64 c.room, .int .i64 c.clock, .slice a c.held.length ka], .agg #[.int .i64 c.room, .int .i64 c.clock, .slice b c.held.length kb]] w fun e w' => e = .returned (.bool true) ∧ Below w.heap.size w w' := same_any c a b ka kb w hm h1 h2
theorem rright_lit (c : Sh) (a : Option Addr) (k : Nat) {b : Bool} (h : right c = b) (w : World) (hm : c.held.length ≤ 1000000) (hs : HSrc w a c.held) :
    Calls Try.prog 17 #[.agg #[.int .i64 c.room, .int .i64 c.clock, .slice a c.held.length k]] w fun e w' => e = .returned (.bool b) ∧ Below w.heap.size w w' := by
  subst h
  exact rright_any c a k w (by unfold maxLen; omega) hs
theorem rorder_lit (c : Sh) (a : Option Addr) (k : Nat) {l : List Int} (h : order c = l) (w : World) (hm : c.held.length ≤ 1000000) (hs : HSrc w a c.held) :
    Calls Try.prog 20 #[.agg #[.int .i64 c.room, .int .i64 c.clock, .slice a c.held.length k]] w fun e w' => ∃ a' k', e = .returned (.slice a' l.length k') ∧ Kit.Own w' w.heap.size TI a' l.length k' (l.map inum) ∧ Below w.heap.size w w' := by
  subst h
  refine (rorder_any c a k w hm hs).mono fun e w' ⟨a', n, k', h1, h2, h3⟩ => ?_
  have hn : n = (order c).length := by have := h2.len; rw [List.length_map] at this; omega
  subst hn
  exact ⟨a', k', h1, h2, h3⟩
theorem HSrc.slot' {w : World} {a : Option Addr} {l : List Hd} {O i n k : Nat} {m : Int} {v x : Value} {p : Option Addr} (hs : HSrc w a l) (h : w.heap[O]? = some (.cells #[.int .i64 m, v, .slice p n k] TS (0, 0))) : HSrc (w.setCell ⟨O, i, none⟩ x) a l := by
  intro j y hj
  have hne := HSrc.apart rfl hs h j y hj
  obtain ⟨b, off, ha, h0, h1, h2⟩ := hs j y hj
  have hc : ∀ q, (w.setCell ⟨O, i, none⟩ x).cell? ⟨b, q, none⟩ = w.cell? ⟨b, q, none⟩ := fun q => World.cell?_of_block (far_block (hne b off ha))
  exact ⟨b, off, ha, by rw [hc]; exact h0, by rw [hc]; exact h1, by rw [hc]; exact h2⟩
theorem order_le (c : Sh) : (order c).length ≤ c.held.length := by
  unfold order
  split
  · rw [List.length_map, ord_length]; exact Nat.le_refl _
  · exact Nat.zero_le _
set_option linter.unusedSimpArgs false
set_option maxRecDepth 100000 in
set_option maxHeartbeats 4000000 in
theorem walk (a0 : Int) (a1 : Option Addr) (len1 cap1 : Nat) (z1 : Nat → Int × Int) (a2 : Int) (a3 : Int) (c4 : Cache.Sh) (a4 : Option Addr) (cap4 : Nat) (a5 : Int) (a6 : ByteArray) (w : World) (w0 : (Lit.int .i64 a0).wf = true) (w1 : Kit.IsPairs .i64 w a1 len1 cap1 z1) (w2 : (Lit.int .i64 a2).wf = true) (w3 : (Lit.int .i64 a3).wf = true) (w4 : Cache.ShArg w c4 a4 cap4) (w5 : (Lit.int .i64 a5).wf = true) (w6 : a6.size ≤ maxLen) :
    Calls Try.prog 3 #[.int .i64 a0, .slice a1 len1 cap1, .int .i64 a2, .int .i64 a3, .agg #[.int .i64 c4.room, .int .i64 c4.clock, .slice a4 c4.held.length cap4], .int .i64 a5, .string a6] w fun e w' => e = .returned (.bool true) ∧ Below w.heap.size w w' := by
  have HPR := Lib.hid w1
  have HSH := Lib.hid w4
  obtain ⟨l0, u0⟩ := bounds_i64 w0
  obtain ⟨l2, u2⟩ := bounds_i64 w2
  obtain ⟨l3, u3⟩ := bounds_i64 w3
  obtain ⟨l5, u5⟩ := bounds_i64 w5
  obtain ⟨pn, hpn, hpp⟩ := pick_nat a0 68 l0 u0 (by omega) (by omega) 68 rfl
  obtain ⟨bn, hbn, hpb⟩ := pick_nat a5 9 l5 u5 (by omega) (by omega) 9 rfl
  have HPN := Lib.hid hpp
  have HPB := Lib.hid hpb
  clear w0 w1 w2 w3 w4 w5 hpp hpb
  obtain ⟨W0, hW0⟩ : ∃ W, w.alloc (.cells #[.int .i64 c4.room, .int .i64 c4.clock, .slice a4 c4.held.length cap4] TS) = W := ⟨_, rfl⟩
  have bA : Below w.heap.size w W0 := by rw [← hW0]; exact (Below.refl _ _).alloc (Nat.le_refl _) _
  have K0 : CellSh W0 w.heap.size c4 a4 cap4 := by rw [← hW0]; exact CellSh.new HSH.out.sh
  obtain ⟨B4, hB4⟩ : ∃ B, w.heap.size = B := ⟨_, rfl⟩
  have P0 := Lib.hid (pairs_below HPR.out bA)
  rw [hB4] at K0
  have KK := Lib.hid K0
  have BL0 := Lib.hid bA
  clear bA K0
  go_enter Try.func3, Try.ntmps3
  go_wp2_with fail
  clear hW0
  have hqa := Lib.hid (awake_any W0)
  (with_reducible refine hqa.out.mono ?_)
  clear hqa
  rintro e w1 ⟨rfl, b1⟩
  have BL1 := Lib.hid (BL0.out.trans (b1.mono BL0.out.size))
  have P1 := Lib.hid (pairs_below P0.out b1)
  have K1 := Lib.hid (KK.out.below b1 rfl)
  clear b1 BL0 P0 KK
  go_wp2_with fail
  refine (HPN.out _).mono ?_
  rintro e w9 ⟨rfl, rfl⟩
  obtain ⟨yn, hyn⟩ : ∃ yn : Int, (pn : Int) - 2 = yn := ⟨_, rfl⟩
  have hy1 : -9223372036854775808 ≤ yn := by omega
  have hy2 : yn ≤ 9223372036854775807 := by omega
  obtain ⟨V1, hV1⟩ : ∃ V, w1.alloc (.cells #[.int .i64 a0, .int .i64 yn] TI) = V := ⟨_, rfl⟩
  obtain ⟨Ba, hBa⟩ : ∃ B, w1.heap.size = B := ⟨_, rfl⟩
  have bV : Below w1.heap.size w1 V1 := by rw [← hV1]; exact (Below.refl _ _).alloc (Nat.le_refl _) _
  have hat : ∀ t, t < 2 → V1.cell? ⟨Ba, t, none⟩ = some (.int .i64 (two a0 yn t)) := by intro t ht; rw [← hV1, ← hBa]; exact two_at w1 a0 yn t ht
  have zBa : Ba < V1.heap.size := by rw [← hV1, ← hBa, size_alloc']; exact Nat.lt_succ_self _
  have HATT := Lib.hid hat
  have BL2 := Lib.hid (BL1.out.trans (bV.mono BL1.out.size))
  have P2 := Lib.hid (pairs_below P1.out bV)
  have K2 := Lib.hid (K1.out.below bV rfl)
  clear bV hat BL1 P1 K1
  go_wp2
  clear hV1 hBa hyn
  go_loopw [47] (fun i wr => ∃ t : Nat, t ≤ 2 ∧ i = .int .i64 t ∧ RowKit.Hid (Below V1.heap.size V1 wr)) (fun i _ => 2 - (intOf i).toNat)
  case atStart => exact ⟨0, by omega, rfl, Lib.hid (Below.refl _ _)⟩
  case round =>
    obtain ⟨t, ht, rfl, hb⟩ := hrel
    have zr := hb.out.size
    by_cases hlt : t < 2
    · have y0 : wr.cell? ⟨Ba, t, none⟩ = some (.int .i64 (two a0 yn t)) := by rw [hb.out.cell (p := ⟨Ba, t, none⟩) zBa]; exact HATT.out t hlt
      obtain ⟨u, hu⟩ : ∃ u, two a0 yn t = u := ⟨_, rfl⟩
      rw [hu] at y0
      obtain ⟨cn, hcn⟩ : ∃ c, newS u = c := ⟨_, rfl⟩
      obtain ⟨en, hen⟩ : ∃ e, newE u = e := ⟨_, rfl⟩
      have HCN := Lib.hid hcn
      have HEN := Lib.hid hen
      have LCN := Lib.hid (show cn.held.length ≤ 1000000 by rw [← hcn]; unfold newS; split <;> exact Nat.zero_le _)
      clear hu hcn hen
      go_wp2_with fail
      clear y0
      refine (new_lit u HCN.out HEN.out _).mono ?_
      rintro e wn1 ⟨rfl, sn1, bn1⟩
      have Can1 := CellSh.new sn1
      have BLn1 := Lib.hid ((hb.out.trans (bn1.mono hb.out.size)).alloc (Nat.le_trans hb.out.size bn1.size) (.cells #[.int .i64 cn.room, .int .i64 cn.clock, .slice none cn.held.length 0] TS))
      have zn1 := Nat.le_trans hb.out.size bn1.size
      obtain ⟨Ba, ha⟩ : ∃ B, wn1.heap.size = B := ⟨_, rfl⟩
      rw [ha] at Can1 zn1
      have Dan1 := Lib.hid Can1
      clear bn1 sn1 Can1
      obtain ⟨Vn1, hVn1⟩ : ∃ V, wn1.alloc (.cells #[.int .i64 cn.room, .int .i64 cn.clock, .slice none cn.held.length 0] TS) = V := ⟨_, rfl⟩
      rw [hVn1] at BLn1 Dan1
      obtain ⟨xa0, xa1, xa2, fa0, fa1, fa2⟩ := Dan1.out.cells
      go_wp2_with fail
      clear hVn1 ha
      clear xa0 xa1 xa2 fa0 fa1 fa2
      refine (rnew_lit u HCN.out HEN.out _).mono ?_
      rintro e wn2 ⟨rfl, sn2, bn2⟩
      have Can2 := Lib.hid ((Dan1.out.below bn2 rfl).below ((Below.refl _ _).alloc (Nat.le_refl _) (.cells #[.int .i64 cn.room, .int .i64 cn.clock, .slice none cn.held.length 0] TS)) rfl)
      have lan2 := (Dan1.out.below bn2 rfl).lt
      have Cbn2 := CellSh.new sn2
      have BLn2 := Lib.hid ((BLn1.out.trans (bn2.mono BLn1.out.size)).alloc (Nat.le_trans BLn1.out.size bn2.size) (.cells #[.int .i64 cn.room, .int .i64 cn.clock, .slice none cn.held.length 0] TS))
      have zn2 := Nat.le_trans BLn1.out.size bn2.size
      obtain ⟨Bb, hb⟩ : ∃ B, wn2.heap.size = B := ⟨_, rfl⟩
      rw [hb] at Cbn2 zn2 lan2
      have nab : ¬ Ba = Bb := by omega
      have nba : ¬ Bb = Ba := by omega
      have Dbn2 := Lib.hid Cbn2
      clear bn2 sn2 Cbn2
      obtain ⟨Vn2, hVn2⟩ : ∃ V, wn2.alloc (.cells #[.int .i64 cn.room, .int .i64 cn.clock, .slice none cn.held.length 0] TS) = V := ⟨_, rfl⟩
      rw [hVn2] at BLn2 Dbn2 Can2
      obtain ⟨xa0, xa1, xa2, fa0, fa1, fa2⟩ := Can2.out.cells
      obtain ⟨xb0, xb1, xb2, fb0, fb1, fb2⟩ := Dbn2.out.cells
      have tt : (en != en) = false := by simp
      go_wp2_with fail
      clear hVn2 hb
      clear xa0 xa1 xa2 fa0 fa1 fa2 xb0 xb1 xb2 fb0 fb1 fb2
      have hqn3 := Lib.hid (same_lit cn none none 0 0 _ LCN.out Can2.out.sh.src Dbn2.out.sh.src)
      (with_reducible refine hqn3.out.mono ?_)
      clear hqn3
      rintro e wn3 ⟨rfl, bn3⟩
      have Qan3 := Lib.hid (Can2.out.below bn3 rfl)
      have Qbn3 := Lib.hid (Dbn2.out.below bn3 rfl)
      have BQn3 := Lib.hid (BLn2.out.trans (bn3.mono BLn2.out.size))
      go_wp2
      go_roundw
      case rel => exact ⟨t + 1, by omega, by go_num, BQn3⟩
      case measure => simp [intOf]; omega
    · have P3 := Lib.hid (pairs_below P2.out hb.out)
      have K3 := Lib.hid (K2.out.below hb.out rfl)
      have BL3 := Lib.hid (BL2.out.trans (hb.out.mono BL2.out.size))
      clear P2 K2 BL2 hb zr
      go_wp2_with fail
      have hsl := Lib.hid (Shelf_lit a0 a1 len1 cap1 z1 l0 u0 wr P3.out)
      (with_reducible refine hsl.out.mono ?_)
      clear hsl
      rintro e w2 ⟨c, ac, kc, rfl, s2, hsm, b2⟩
      have LC := Lib.hid (show c.held.length ≤ 1000 by have := hsm.len; omega)
      have hsm6 := hsm.len
      obtain ⟨V2, hV2⟩ : ∃ V, w2.alloc (.cells #[.int .i64 c.room, .int .i64 c.clock, .slice ac c.held.length kc] TS) = V := ⟨_, rfl⟩
      obtain ⟨Bc, hBc⟩ : ∃ B, w2.heap.size = B := ⟨_, rfl⟩
      have bV : Below wr.heap.size wr V2 := by rw [← hV2]; exact b2.alloc b2.size _
      have zc : wr.heap.size ≤ Bc := by rw [← hBc]; exact b2.size
      have CC2 := Lib.hid (show CellSh V2 Bc c ac kc by rw [← hV2, ← hBc]; exact CellSh.new s2)
      have K4 := Lib.hid (K3.out.below bV rfl)
      have BL4 := Lib.hid (BL3.out.trans (bV.mono BL3.out.size))
      have zw : w.heap.size ≤ wr.heap.size := BL3.out.size
      clear bV hsm s2 b2 K3 BL3 P3
      obtain ⟨M, hM1, hM2, hM3, hM4⟩ := Kit.cut_len c4.held.length 12 12 rfl
      have hM5 : min c4.held.length 12 = M := hM4.symm
      have hM6 : min (c4.held.length : Int) 12 = (M : Int) := by omega
      have hM7 : M ≤ cap4 := Nat.le_trans hM2 HSH.out.room
      obtain ⟨VF, hVF⟩ : ∃ V, V2.alloc (.cells #[.int .i64 c4.room, .int .i64 c4.clock, .slice a4 c4.held.length cap4] TS) = V := ⟨_, rfl⟩
      obtain ⟨Bo, hBo⟩ : ∃ B, V2.heap.size = B := ⟨_, rfl⟩
      obtain ⟨od, hod⟩ : ∃ d, d = (⟨c4.room, c4.clock, c4.held.take M⟩ : Sh) := ⟨_, rfl⟩
      have od1 : od.room = c4.room := by rw [hod]
      have od2 : od.clock = c4.clock := by rw [hod]
      have od3 : od.held.length = M := by rw [hod]; show (c4.held.take M).length = M; rw [List.length_take]; omega
      have bVF : Below V2.heap.size V2 VF := by rw [← hVF]; exact (Below.refl _ _).alloc (Nat.le_refl _) _
      have KF := K4.out.below bVF rfl
      have CF : CellSh VF Bo c4 a4 cap4 := by rw [← hVF, ← hBo]; exact CellSh.new K4.out.sh
      obtain ⟨V3, hV3⟩ : ∃ V, VF.setCell ⟨Bo, 2, none⟩ (.slice a4 M cap4) = V := ⟨_, rfl⟩
      have SO : ShW V3 od a4 cap4 := by
        have h := CF.sh
        rw [hod, ← hV3]
        refine ⟨fun j y hj => HSrc.slot' h.src CF.blk j y ?_, fun e => ?_, fun y hy => h.wf y ((List.take_subset _ _) hy)⟩
        · rw [List.getElem?_take] at hj
          split at hj
          · exact hj
          · cases hj
        · obtain ⟨e1, e2⟩ := h.nil e
          exact ⟨by show (c4.held.take M).length = 0; rw [List.length_take]; omega, e2⟩
      have zo : w.heap.size ≤ Bo := by rw [← hBo]; exact BL4.out.size
      have zco : Bc < Bo := by rw [← hBo]; exact CC2.out.lt
      have CO := Lib.hid (show CellSh V3 Bo od a4 cap4 by
        refine ⟨?_, SO⟩
        rw [← hV3, slot_block 2 CF.blk]
        simp only [shobj, od1, od2, od3]
        rfl)
      have CC3 := Lib.hid (show CellSh V3 Bc c ac kc by
        have h := CC2.out.below bVF rfl
        refine ⟨?_, ?_, h.sh.nil, h.sh.wf⟩
        · rw [← hV3, far_block (by omega)]
          exact h.blk
        · rw [← hV3]
          exact HSrc.slot' h.sh.src CF.blk)
      have BL5 := Lib.hid (show Below w.heap.size w V3 by rw [← hV3]; exact (BL4.out.trans (bVF.mono BL4.out.size)).setCell zo _)
      have LO := Lib.hid (show od.held.length ≤ 1000 by rw [od3]; omega)
      clear SO hod hM4 bVF
      obtain ⟨xk0, xk1, xk2, fk0, fk1, fk2⟩ := K4.out.cells
      obtain ⟨yk0, yk1, yk2, gk0, gk1, gk2⟩ := KF.cells
      obtain ⟨xo0, xo1, xo2, fo0, fo1, fo2⟩ := CF.cells
      go_upto_region 13 with fail
      clear xk0 xk1 xk2 fk0 fk1 fk2 yk0 yk1 yk2 gk0 gk1 gk2 xo0 xo1 xo2 fo0 fo1 fo2 hV3 hVF hBo hV2 hBc hM1 hM5 hM6 od1 od2 od3 CF KF K4 CC2 BL4
      refine wp_region_held_drew (S := fun w' => CellSh w' Bc c ac kc ∧ CellSh w' Bo od a4 cap4) (by kernel_rfl) ⟨CC3.out.below (Below.refl _ _).drew rfl, CO.out.below (Below.refl _ _).drew rfl⟩ (fun hHeld => ?_)
      refine wpAnyH_take (i := 0) (v := .agg #[.int .i64 c.room, .int .i64 c.clock, .slice ac c.held.length kc]) rfl (by kernel_rfl) (by kernel_rfl) (by kernel_rfl) (fun _ _ _ h => h) (Or.inl ⟨by rfl, fun w hSw => by obtain ⟨x0, x1, x2, f0, f1, f2⟩ := hSw.1.cells; go_simp⟩) hHeld ?_
      try simp only [List.getElem_toArray, List.getElem_cons_succ, List.getElem_cons_zero, Act.put, List.setIfInBounds_toArray, List.set_cons_zero, List.set_cons_succ]
      refine wpAnyH_take (i := 1) (v := .agg #[.int .i64 c.room, .int .i64 c.clock, .slice ac c.held.length kc]) rfl (by kernel_rfl) (by kernel_rfl) (by kernel_rfl) (fun _ _ _ h => h) (Or.inl ⟨by rfl, fun w hSw => by obtain ⟨x0, x1, x2, f0, f1, f2⟩ := hSw.1.cells; go_simp⟩) hHeld ?_
      try simp only [List.getElem_toArray, List.getElem_cons_succ, List.getElem_cons_zero, Act.put, List.setIfInBounds_toArray, List.set_cons_zero, List.set_cons_succ]
      refine wpAnyH_take (i := 2) (v := .int .i64 a2) rfl (by kernel_rfl) (by kernel_rfl) (by kernel_rfl) (fun _ _ _ h => h) (Or.inl ⟨by rfl, fun w hSw => by (try dsimp only at hSw); go_simp⟩) hHeld ?_
      try simp only [List.getElem_toArray, List.getElem_cons_succ, List.getElem_cons_zero, Act.put, List.setIfInBounds_toArray, List.set_cons_zero, List.set_cons_succ]
      refine wpAnyH_take (i := 3) (v := .int .i64 a3) rfl (by kernel_rfl) (by kernel_rfl) (by kernel_rfl) (fun _ _ _ h => h) (Or.inl ⟨by rfl, fun w hSw => by (try dsimp only at hSw); go_simp⟩) hHeld ?_
      try simp only [List.getElem_toArray, List.getElem_cons_succ, List.getElem_cons_zero, Act.put, List.setIfInBounds_toArray, List.set_cons_zero, List.set_cons_succ]
      refine wpAnyH_take (i := 5) (v := .agg #[.int .i64 od.room, .int .i64 od.clock, .slice a4 od.held.length cap4]) rfl (by kernel_rfl) (by kernel_rfl) (by kernel_rfl) (fun _ _ _ h => h) (Or.inl ⟨by rfl, fun w hSw => by obtain ⟨x0, x1, x2, f0, f1, f2⟩ := hSw.2.cells; go_simp⟩) hHeld ?_
      try simp only [List.getElem_toArray, List.getElem_cons_succ, List.getElem_cons_zero, Act.put, List.setIfInBounds_toArray, List.set_cons_zero, List.set_cons_succ]
      refine wpAnyH_take (i := 8) (v := .int .i64 0) rfl (by kernel_rfl) (by kernel_rfl) (by kernel_rfl) (fun _ _ _ h => h) (Or.inl ⟨by rfl, fun w hSw => by (try dsimp only at hSw); go_simp⟩) hHeld ?_
      try simp only [List.getElem_toArray, List.getElem_cons_succ, List.getElem_cons_zero, Act.put, List.setIfInBounds_toArray, List.set_cons_zero, List.set_cons_succ]
      refine wpAnyH_ready (rs := [4]) (by kernel_rfl) (by simp) ?_
      refine AllReadyH.cons rfl (fun K hK => ?_) ?_
      · go_simp
        go_at_call 15
        have hq5 := Lib.hid (turned_any c ac kc a2 a3 V3.drew LC.out hHeld.1.sh l2 u2 l3 u3)
        (with_reducible refine hq5.out.mono ?_)
        clear hq5
        rintro e w5 ⟨d, ad, kd, rfl, s5, hd5, b5⟩
        have BE5 := Lib.hid (BL5.out.drew.trans (b5.mono BL5.out.size))
        have LD := Lib.hid (show d.held.length ≤ 1000 by have := hsm6; omega)
        clear hd5
        refine hK.out _ _ ?_ (fun hHeld => ?_)
        · exact ⟨hHeld.1.below b5 rfl, hHeld.2.below b5 rfl⟩
        clear hK K
        try simp only [List.getElem_toArray, List.getElem_cons_succ, List.getElem_cons_zero, Act.put, List.setIfInBounds_toArray, List.set_cons_zero, List.set_cons_succ]
        refine wpAnyH_ready (rs := [6]) (by kernel_rfl) (by simp) ?_
        refine AllReadyH.cons rfl (fun K hK => ?_) ?_
        · have HH5 := Lib.hid hHeld
          go_simp
          refine hK.out _ _ ?_ (fun hHeld => ?_)
          · exact ⟨HH5.out.1.below ((Below.refl _ _).alloc (Nat.le_refl _) _) rfl, HH5.out.2.below ((Below.refl _ _).alloc (Nat.le_refl _) _) rfl⟩
          clear hK K
          try simp only [List.getElem_toArray, List.getElem_cons_succ, List.getElem_cons_zero, Act.put, List.setIfInBounds_toArray, List.set_cons_zero, List.set_cons_succ]
          refine wpAnyH_take (i := 7) (v := .int .i64 3) rfl (by kernel_rfl) (by kernel_rfl) (by kernel_rfl) (fun _ _ _ h => h) (Or.inl ⟨by rfl, fun w hSw => by (try dsimp only at hSw); go_simp⟩) hHeld ?_
          try simp only [List.getElem_toArray, List.getElem_cons_succ, List.getElem_cons_zero, Act.put, List.setIfInBounds_toArray, List.set_cons_zero, List.set_cons_succ]
          refine wpAnyH_done (by kernel_rfl) ?_ _
          obtain ⟨V6, hV6⟩ : ∃ V, w5.alloc (.cells #[.int .i64 c.room, .int .i64 c.clock, .slice ac c.held.length kc, .int .i64 d.room, .int .i64 d.clock, .slice ad d.held.length kd, .int .i64 od.room, .int .i64 od.clock, .slice a4 od.held.length cap4] TS) = V := ⟨_, rfl⟩
          obtain ⟨Bl, hBl⟩ : ∃ B, w5.heap.size = B := ⟨_, rfl⟩
          have TH3 := Lib.hid (show Three V6 Bl by rw [← hV6, ← hBl]; exact Three.new HH5.out.1.sh s5 HH5.out.2.sh LC.out LD.out LO.out TS)
          have BL6 := Lib.hid (show Below w.heap.size w V6 by rw [← hV6]; exact BE5.out.alloc BE5.out.size _)
          have zl : Bl < V6.heap.size := by rw [← hV6, ← hBl, size_alloc']; exact Nat.lt_succ_self _
          clear HH5 hHeld s5 BE5 LD LO LC CC3 CO BL5 b5 hsm6
          rw [hV6, hBl]
          go_wp2
          clear hV6 hBl
          go_loopw [91] (fun i wr => ∃ t : Nat, t ≤ 3 ∧ i = .int .i64 t ∧ RowKit.Hid (Below V6.heap.size V6 wr)) (fun i _ => 3 - (intOf i).toNat)
          case atStart => exact ⟨0, by omega, rfl, Lib.hid (Below.refl _ _)⟩
          case round =>
            obtain ⟨t3, ht3, rfl, hb3⟩ := hrel
            have zr3 := hb3.out.size
            by_cases hlt3 : t3 < 3
            · obtain ⟨cc, ca, ck, y0, y1, y2, hsw, hln⟩ := (TH3.out.below hb3.out rfl) t3 hlt3
              have LCC := Lib.hid hln
              obtain ⟨V7, hV7⟩ : ∃ V, wr.alloc (.cells #[.int .i64 cc.room, .int .i64 cc.clock, .slice ca cc.held.length ck] TS) = V := ⟨_, rfl⟩
              obtain ⟨Bz, hBz⟩ : ∃ B, wr.heap.size = B := ⟨_, rfl⟩
              have CZ := Lib.hid (show CellSh V7 Bz cc ca ck by rw [← hV7, ← hBz]; exact CellSh.new hsw)
              have BL7 := Lib.hid (show Below V6.heap.size V6 V7 by rw [← hV7]; exact hb3.out.alloc zr3 _)
              obtain ⟨rb, hrb⟩ : ∃ b, right cc = b := ⟨_, rfl⟩
              have HRB := Lib.hid hrb
              obtain ⟨L, hL⟩ : ∃ L, order cc = L := ⟨_, rfl⟩
              have HOL := Lib.hid hL
              have HLL := Lib.hid (show L.length ≤ 1000000 by rw [← hL]; have := order_le cc; omega)
              clear hsw hln hrb hL
              go_upto_region 16 with fail
              clear hV7 hBz y0 y1 y2
              refine wp_region_held_drew (S := fun w' => CellSh w' Bz cc ca ck) (by kernel_rfl) (CZ.out.below (Below.refl _ _).drew rfl) (fun hHeld => ?_)
              refine wpAnyH_take (i := 0) (v := .agg #[.int .i64 cc.room, .int .i64 cc.clock, .slice ca cc.held.length ck]) rfl (by kernel_rfl) (by kernel_rfl) (by kernel_rfl) (fun _ _ _ h => h) (Or.inl ⟨by rfl, fun w hSw => by obtain ⟨x0, x1, x2, f0, f1, f2⟩ := hSw.cells; go_simp⟩) hHeld ?_
              try simp only [List.getElem_toArray, List.getElem_cons_succ, List.getElem_cons_zero, Act.put, List.setIfInBounds_toArray, List.set_cons_zero, List.set_cons_succ]
              refine wpAnyH_take (i := 2) (v := .agg #[.int .i64 cc.room, .int .i64 cc.clock, .slice ca cc.held.length ck]) rfl (by kernel_rfl) (by kernel_rfl) (by kernel_rfl) (fun _ _ _ h => h) (Or.inl ⟨by rfl, fun w hSw => by obtain ⟨x0, x1, x2, f0, f1, f2⟩ := hSw.cells; go_simp⟩) hHeld ?_
              try simp only [List.getElem_toArray, List.getElem_cons_succ, List.getElem_cons_zero, Act.put, List.setIfInBounds_toArray, List.set_cons_zero, List.set_cons_succ]
              refine wpAnyH_ready (rs := [1]) (by kernel_rfl) (by simp) ?_
              refine AllReadyH.cons rfl (fun K hK => ?_) ?_
              · go_simp
                go_at_call 16
                have hqA := Lib.hid (right_lit cc ca ck HRB.out _ (by have := LCC.out; unfold maxLen; omega) hHeld.sh.src)
                (with_reducible refine hqA.out.mono ?_)
                clear hqA
                rintro e wA ⟨rfl, bA⟩
                have BEA := Lib.hid ((Lib.hid BL7.out.drew).out.trans (bA.mono (Lib.hid BL7.out.drew).out.size))
                refine hK.out _ _ ?_ (fun hHeld => ?_)
                · exact hHeld.below bA rfl
                clear hK K
                try simp only [List.getElem_toArray, List.getElem_cons_succ, List.getElem_cons_zero, Act.put, List.setIfInBounds_toArray, List.set_cons_zero, List.set_cons_succ]
                refine wpAnyH_ready (rs := [3]) (by kernel_rfl) (by simp) ?_
                refine AllReadyH.cons rfl (fun K hK => ?_) ?_
                · go_simp
                  go_at_call 17
                  have hqB := Lib.hid (rright_lit cc ca ck HRB.out _ (Nat.le_trans LCC.out (by omega)) hHeld.sh.src)
                  (with_reducible refine hqB.out.mono ?_)
                  clear hqB
                  rintro e wB ⟨rfl, bB⟩
                  have BEB := Lib.hid (BEA.out.trans (bB.mono BEA.out.size))
                  refine hK.out _ _ ?_ (fun hHeld => ?_)
                  · exact hHeld.below bB rfl
                  clear hK K
                  try simp only [List.getElem_toArray, List.getElem_cons_succ, List.getElem_cons_zero, Act.put, List.setIfInBounds_toArray, List.set_cons_zero, List.set_cons_succ]
                  refine wpAnyH_take (i := 4) (v := .bool false) rfl (by kernel_rfl) (by kernel_rfl) (by kernel_rfl) (fun _ _ _ h => h) (Or.inl ⟨by rfl, fun w hSw => by (try dsimp only at hSw); go_simp⟩) hHeld ?_
                  try simp only [List.getElem_toArray, List.getElem_cons_succ, List.getElem_cons_zero, Act.put, List.setIfInBounds_toArray, List.set_cons_zero, List.set_cons_succ]
                  refine wpAnyH_take (i := 5) (v := .bool false) rfl (by kernel_rfl) (by kernel_rfl) (by kernel_rfl) (fun _ _ _ h => h) (Or.inl ⟨by rfl, fun w hSw => by (try dsimp only at hSw); go_simp⟩) hHeld ?_
                  try simp only [List.getElem_toArray, List.getElem_cons_succ, List.getElem_cons_zero, Act.put, List.setIfInBounds_toArray, List.set_cons_zero, List.set_cons_succ]
                  refine wpAnyH_take (i := 6) (v := .agg #[.int .i64 cc.room, .int .i64 cc.clock, .slice ca cc.held.length ck]) rfl (by kernel_rfl) (by kernel_rfl) (by kernel_rfl) (fun _ _ _ h => h) (Or.inl ⟨by rfl, fun w hSw => by obtain ⟨x0, x1, x2, f0, f1, f2⟩ := hSw.cells; go_simp⟩) hHeld ?_
                  try simp only [List.getElem_toArray, List.getElem_cons_succ, List.getElem_cons_zero, Act.put, List.setIfInBounds_toArray, List.set_cons_zero, List.set_cons_succ]
                  refine wpAnyH_take (i := 8) (v := .agg #[.int .i64 cc.room, .int .i64 cc.clock, .slice ca cc.held.length ck]) rfl (by kernel_rfl) (by kernel_rfl) (by kernel_rfl) (fun _ _ _ h => h) (Or.inl ⟨by rfl, fun w hSw => by obtain ⟨x0, x1, x2, f0, f1, f2⟩ := hSw.cells; go_simp⟩) hHeld ?_
                  try simp only [List.getElem_toArray, List.getElem_cons_succ, List.getElem_cons_zero, Act.put, List.setIfInBounds_toArray, List.set_cons_zero, List.set_cons_succ]
                  refine wpAnyH_ready (rs := [7]) (by kernel_rfl) (by simp) ?_
                  refine AllReadyH.cons rfl (fun K hK => ?_) ?_
                  · go_simp
                    go_at_call 19
                    have hqP := Lib.hid (order_lit cc ca ck HOL.out _ (Nat.le_trans LCC.out (by omega)) hHeld.sh.src)
                    (with_reducible refine hqP.out.mono ?_)
                    clear hqP
                    rintro e wP ⟨pP, kP, rfl, sP, bP⟩
                    have BEP := Lib.hid (BEB.out.trans (bP.mono BEB.out.size))
                    have SPP := Lib.hid sP.src
                    refine hK.out _ _ ?_ (fun hHeld => ?_)
                    · exact hHeld.below bP rfl
                    clear hK K
                    try simp only [List.getElem_toArray, List.getElem_cons_succ, List.getElem_cons_zero, Act.put, List.setIfInBounds_toArray, List.set_cons_zero, List.set_cons_succ]
                    refine wpAnyH_ready (rs := [9]) (by kernel_rfl) (by simp) ?_
                    refine AllReadyH.cons rfl (fun K hK => ?_) ?_
                    · go_simp
                      go_at_call 20
                      have hqQ := Lib.hid (rorder_lit cc ca ck HOL.out _ (Nat.le_trans LCC.out (by omega)) hHeld.sh.src)
                      (with_reducible refine hqQ.out.mono ?_)
                      clear hqQ
                      rintro e wQ ⟨pQ, kQ, rfl, sQ, bQ⟩
                      have BEQ := Lib.hid (BEP.out.trans (bQ.mono BEP.out.size))
                      have SPQ := Lib.hid sQ.src
                      have SPP2 := Lib.hid (SPP.out.below bQ)
                      refine hK.out _ _ ?_ (fun hHeld => ?_)
                      · exact hHeld.below bQ rfl
                      clear hK K
                      try simp only [List.getElem_toArray, List.getElem_cons_succ, List.getElem_cons_zero, Act.put, List.setIfInBounds_toArray, List.set_cons_zero, List.set_cons_succ]
                      refine wpAnyH_ready (rs := [10]) (by kernel_rfl) (by simp) ?_
                      refine AllReadyH.cons rfl (fun K hK => ?_) ?_
                      · go_simp
                        go_at_call 18
                        have hqR := Lib.hid (ints_lit pP pQ kP kQ L rfl rfl HLL.out _ SPP2.out SPQ.out)
                        (with_reducible refine hqR.out.mono ?_)
                        clear hqR
                        rintro e wR ⟨rfl, bR⟩
                        have BER := Lib.hid (BEQ.out.trans (bR.mono BEQ.out.size))
                        refine hK.out _ _ ?_ (fun hHeld => ?_)
                        · exact hHeld.below bR rfl
                        clear hK K
                        try simp only [List.getElem_toArray, List.getElem_cons_succ, List.getElem_cons_zero, Act.put, List.setIfInBounds_toArray, List.set_cons_zero, List.set_cons_succ]
                        refine wpAnyH_take (i := 11) (v := .bool false) rfl (by kernel_rfl) (by kernel_rfl) (by kernel_rfl) (fun _ _ _ h => h) (Or.inl ⟨by rfl, fun w hSw => by (try dsimp only at hSw); go_simp⟩) hHeld ?_
                        try simp only [List.getElem_toArray, List.getElem_cons_succ, List.getElem_cons_zero, Act.put, List.setIfInBounds_toArray, List.set_cons_zero, List.set_cons_succ]
                        refine wpAnyH_take (i := 12) (v := .bool false) rfl (by kernel_rfl) (by kernel_rfl) (by kernel_rfl) (fun _ _ _ h => h) (Or.inl ⟨by rfl, fun w hSw => by (try dsimp only at hSw); go_simp⟩) hHeld ?_
                        try simp only [List.getElem_toArray, List.getElem_cons_succ, List.getElem_cons_zero, Act.put, List.setIfInBounds_toArray, List.set_cons_zero, List.set_cons_succ]
                        refine wpAnyH_done (by kernel_rfl) ?_ _
                        have CZ8 := Lib.hid hHeld
                        have BL8 := BER
                        clear hHeld CZ BL7
                        go_wp2_with fail
                        refine (HPB.out _).mono ?_
                        rintro e w9 ⟨rfl, rfl⟩
                        obtain ⟨V8, hV8⟩ : ∃ V, wR.alloc (.cells #[.int .i64 a5, .int .i64 (bn : Int)] TI) = V := ⟨_, rfl⟩
                        obtain ⟨Bb, hBb⟩ : ∃ B, wR.heap.size = B := ⟨_, rfl⟩
                        have bV : Below wR.heap.size wR V8 := by rw [← hV8]; exact (Below.refl _ _).alloc (Nat.le_refl _) _
                        have hat8 : ∀ t, t < 2 → V8.cell? ⟨Bb, t, none⟩ = some (.int .i64 (two a5 (bn : Int) t)) := by intro t ht; rw [← hV8, ← hBb]; exact two_at wR a5 (bn : Int) t ht
                        have zBb : Bb < V8.heap.size := by rw [← hV8, ← hBb, size_alloc']; exact Nat.lt_succ_self _
                        have HAT8 := Lib.hid hat8
                        have BL9 := Lib.hid (BL8.out.trans (bV.mono BL8.out.size))
                        have CZ9 := Lib.hid (CZ8.out.below bV rfl)
                        clear bV hat8 BL8 CZ8
                        go_wp2
                        clear hV8 hBb
                        go_loopw [113] (fun i wr => ∃ t : Nat, t ≤ 2 ∧ i = .int .i64 t ∧ RowKit.Hid (Below V8.heap.size V8 wr)) (fun i _ => 2 - (intOf i).toNat)
                        case atStart => exact ⟨0, by omega, rfl, Lib.hid (Below.refl _ _)⟩
                        case round =>
                          obtain ⟨t8, ht8, rfl, hb8⟩ := hrel
                          have zr8 := hb8.out.size
                          have CZW := Lib.hid (CZ9.out.below hb8.out rfl)
                          by_cases hlt8 : t8 < 2
                          · have y0 : wr.cell? ⟨Bb, t8, none⟩ = some (.int .i64 (two a5 (bn : Int) t8)) := by rw [hb8.out.cell (p := ⟨Bb, t8, none⟩) zBb]; exact HAT8.out t8 hlt8
                            obtain ⟨v, hv⟩ : ∃ v, two a5 (bn : Int) t8 = v := ⟨_, rfl⟩
                            have v1 : -9223372036854775808 ≤ v := by rw [← hv]; exact two_lo l5 (by omega)
                            have v2 : v ≤ 9223372036854775807 := by rw [← hv]; exact two_hi u5 (by omega)
                            rw [hv] at y0
                            obtain ⟨st, c1, e1, h1⟩ : ∃ s c' e, Cache.take cc v = (s, c', e) := ⟨_, _, _, rfl⟩
                            obtain ⟨gg, c2, e2, h2⟩ : ∃ s c' e, Cache.keep cc v a6 = (s, c', e) := ⟨_, _, _, rfl⟩
                            have L1 := Lib.hid (show c1.held.length ≤ 1000000 by have h := take_le cc v; rw [h1] at h; have h' : c1.held.length ≤ cc.held.length + 1 := h; have := LCC.out; omega)
                            have L2 := Lib.hid (show c2.held.length ≤ 1000000 by have h := keep_le cc v a6; rw [h2] at h; have h' : c2.held.length ≤ cc.held.length + 1 := h; have := LCC.out; omega)
                            have H1 := Lib.hid h1
                            have H2 := Lib.hid h2
                            have LC6 := Lib.hid (show cc.held.length ≤ 1000000 by have := LCC.out; omega)
                            clear hv h1 h2
                            obtain ⟨xz0, xz1, xz2, fz0, fz1, fz2⟩ := CZW.out.cells
                            go_wp2_with fail
                            clear xz0 xz1 xz2 fz0 fz1 fz2
                            clear y0
                            have hqr1 := Lib.hid (take_lit cc ca ck v H1.out _ LC6.out CZW.out.sh v1 v2)
                            (with_reducible refine hqr1.out.mono ?_)
                            clear hqr1
                            rintro e wr1 ⟨ar1, kr1, rfl, sr1, br1⟩
                            have Czr1 := Lib.hid ((CZW.out.below br1 rfl).below ((Below.refl _ _).alloc (Nat.le_refl _) (.cells #[.int .i64 c1.room, .int .i64 c1.clock, .slice ar1 c1.held.length kr1] TS)) rfl)
                            have lzr1 := (CZW.out.below br1 rfl).lt
                            have Cmr1 := CellSh.new sr1
                            have BLr1 := Lib.hid ((hb8.out.trans (br1.mono hb8.out.size)).alloc (Nat.le_trans hb8.out.size br1.size) (.cells #[.int .i64 c1.room, .int .i64 c1.clock, .slice ar1 c1.held.length kr1] TS))
                            have zr1 := Nat.le_trans hb8.out.size br1.size
                            obtain ⟨Bm, hm⟩ : ∃ B, wr1.heap.size = B := ⟨_, rfl⟩
                            rw [hm] at Cmr1 zr1 lzr1
                            have nzm : ¬ Bz = Bm := by omega
                            have nmz : ¬ Bm = Bz := by omega
                            have Dmr1 := Lib.hid Cmr1
                            clear br1 sr1 Cmr1
                            obtain ⟨Vr1, hVr1⟩ : ∃ V, wr1.alloc (.cells #[.int .i64 c1.room, .int .i64 c1.clock, .slice ar1 c1.held.length kr1] TS) = V := ⟨_, rfl⟩
                            rw [hVr1] at BLr1 Dmr1 Czr1
                            obtain ⟨xz0, xz1, xz2, fz0, fz1, fz2⟩ := Czr1.out.cells
                            obtain ⟨xm0, xm1, xm2, fm0, fm1, fm2⟩ := Dmr1.out.cells
                            go_wp2_with fail
                            clear hVr1 hm
                            clear xz0 xz1 xz2 fz0 fz1 fz2 xm0 xm1 xm2 fm0 fm1 fm2
                            have hqr2 := Lib.hid (rtake_lit cc ca ck v H1.out _ LC6.out Czr1.out.sh v1 v2)
                            (with_reducible refine hqr2.out.mono ?_)
                            clear hqr2
                            rintro e wr2 ⟨ar2, kr2, rfl, sr2, br2⟩
                            have Czr2 := Lib.hid ((Czr1.out.below br2 rfl).below ((Below.refl _ _).alloc (Nat.le_refl _) (.cells #[.int .i64 c1.room, .int .i64 c1.clock, .slice ar2 c1.held.length kr2] TS)) rfl)
                            have lzr2 := (Czr1.out.below br2 rfl).lt
                            have Cmr2 := Lib.hid ((Dmr1.out.below br2 rfl).below ((Below.refl _ _).alloc (Nat.le_refl _) (.cells #[.int .i64 c1.room, .int .i64 c1.clock, .slice ar2 c1.held.length kr2] TS)) rfl)
                            have lmr2 := (Dmr1.out.below br2 rfl).lt
                            have Cnr2 := CellSh.new sr2
                            have BLr2 := Lib.hid ((BLr1.out.trans (br2.mono BLr1.out.size)).alloc (Nat.le_trans BLr1.out.size br2.size) (.cells #[.int .i64 c1.room, .int .i64 c1.clock, .slice ar2 c1.held.length kr2] TS))
                            have zr2 := Nat.le_trans BLr1.out.size br2.size
                            obtain ⟨Bn, hn⟩ : ∃ B, wr2.heap.size = B := ⟨_, rfl⟩
                            rw [hn] at Cnr2 zr2 lzr2 lmr2
                            have nzn : ¬ Bz = Bn := by omega
                            have nnz : ¬ Bn = Bz := by omega
                            have nmn : ¬ Bm = Bn := by omega
                            have nnm : ¬ Bn = Bm := by omega
                            have Dnr2 := Lib.hid Cnr2
                            clear br2 sr2 Cnr2
                            obtain ⟨Vr2, hVr2⟩ : ∃ V, wr2.alloc (.cells #[.int .i64 c1.room, .int .i64 c1.clock, .slice ar2 c1.held.length kr2] TS) = V := ⟨_, rfl⟩
                            rw [hVr2] at BLr2 Dnr2 Czr2 Cmr2
                            obtain ⟨xz0, xz1, xz2, fz0, fz1, fz2⟩ := Czr2.out.cells
                            obtain ⟨xm0, xm1, xm2, fm0, fm1, fm2⟩ := Cmr2.out.cells
                            obtain ⟨xn0, xn1, xn2, fn0, fn1, fn2⟩ := Dnr2.out.cells
                            go_wp2_with fail
                            clear hVr2 hn
                            clear xz0 xz1 xz2 fz0 fz1 fz2 xm0 xm1 xm2 fm0 fm1 fm2 xn0 xn1 xn2 fn0 fn1 fn2
                            have hqr3 := Lib.hid (keep_lit cc ca ck v a6 H2.out _ LC6.out Czr2.out.sh v1 v2)
                            (with_reducible refine hqr3.out.mono ?_)
                            clear hqr3
                            rintro e wr3 ⟨ar3, kr3, rfl, sr3, br3⟩
                            have Czr3 := Lib.hid ((Czr2.out.below br3 rfl).below ((Below.refl _ _).alloc (Nat.le_refl _) (.cells #[.int .i64 c2.room, .int .i64 c2.clock, .slice ar3 c2.held.length kr3] TS)) rfl)
                            have lzr3 := (Czr2.out.below br3 rfl).lt
                            have Cmr3 := Lib.hid ((Cmr2.out.below br3 rfl).below ((Below.refl _ _).alloc (Nat.le_refl _) (.cells #[.int .i64 c2.room, .int .i64 c2.clock, .slice ar3 c2.held.length kr3] TS)) rfl)
                            have lmr3 := (Cmr2.out.below br3 rfl).lt
                            have Cnr3 := Lib.hid ((Dnr2.out.below br3 rfl).below ((Below.refl _ _).alloc (Nat.le_refl _) (.cells #[.int .i64 c2.room, .int .i64 c2.clock, .slice ar3 c2.held.length kr3] TS)) rfl)
                            have lnr3 := (Dnr2.out.below br3 rfl).lt
                            have Cpr3 := CellSh.new sr3
                            have BLr3 := Lib.hid ((BLr2.out.trans (br3.mono BLr2.out.size)).alloc (Nat.le_trans BLr2.out.size br3.size) (.cells #[.int .i64 c2.room, .int .i64 c2.clock, .slice ar3 c2.held.length kr3] TS))
                            have zr3 := Nat.le_trans BLr2.out.size br3.size
                            obtain ⟨Bp, hp⟩ : ∃ B, wr3.heap.size = B := ⟨_, rfl⟩
                            rw [hp] at Cpr3 zr3 lzr3 lmr3 lnr3
                            have nzp : ¬ Bz = Bp := by omega
                            have npz : ¬ Bp = Bz := by omega
                            have nmp : ¬ Bm = Bp := by omega
                            have npm : ¬ Bp = Bm := by omega
                            have nnp : ¬ Bn = Bp := by omega
                            have npn : ¬ Bp = Bn := by omega
                            have Dpr3 := Lib.hid Cpr3
                            clear br3 sr3 Cpr3
                            obtain ⟨Vr3, hVr3⟩ : ∃ V, wr3.alloc (.cells #[.int .i64 c2.room, .int .i64 c2.clock, .slice ar3 c2.held.length kr3] TS) = V := ⟨_, rfl⟩
                            rw [hVr3] at BLr3 Dpr3 Czr3 Cmr3 Cnr3
                            obtain ⟨xz0, xz1, xz2, fz0, fz1, fz2⟩ := Czr3.out.cells
                            obtain ⟨xm0, xm1, xm2, fm0, fm1, fm2⟩ := Cmr3.out.cells
                            obtain ⟨xn0, xn1, xn2, fn0, fn1, fn2⟩ := Cnr3.out.cells
                            obtain ⟨xp0, xp1, xp2, fp0, fp1, fp2⟩ := Dpr3.out.cells
                            go_wp2_with fail
                            clear hVr3 hp
                            clear xz0 xz1 xz2 fz0 fz1 fz2 xm0 xm1 xm2 fm0 fm1 fm2 xn0 xn1 xn2 fn0 fn1 fn2 xp0 xp1 xp2 fp0 fp1 fp2
                            have hqr4 := Lib.hid (rkeep_lit cc ca ck v a6 H2.out _ LC6.out Czr3.out.sh v1 v2)
                            (with_reducible refine hqr4.out.mono ?_)
                            clear hqr4
                            rintro e wr4 ⟨ar4, kr4, rfl, sr4, br4⟩
                            have Czr4 := Lib.hid ((Czr3.out.below br4 rfl).below ((Below.refl _ _).alloc (Nat.le_refl _) (.cells #[.int .i64 c2.room, .int .i64 c2.clock, .slice ar4 c2.held.length kr4] TS)) rfl)
                            have lzr4 := (Czr3.out.below br4 rfl).lt
                            have Cmr4 := Lib.hid ((Cmr3.out.below br4 rfl).below ((Below.refl _ _).alloc (Nat.le_refl _) (.cells #[.int .i64 c2.room, .int .i64 c2.clock, .slice ar4 c2.held.length kr4] TS)) rfl)
                            have lmr4 := (Cmr3.out.below br4 rfl).lt
                            have Cnr4 := Lib.hid ((Cnr3.out.below br4 rfl).below ((Below.refl _ _).alloc (Nat.le_refl _) (.cells #[.int .i64 c2.room, .int .i64 c2.clock, .slice ar4 c2.held.length kr4] TS)) rfl)
                            have lnr4 := (Cnr3.out.below br4 rfl).lt
                            have Cpr4 := Lib.hid ((Dpr3.out.below br4 rfl).below ((Below.refl _ _).alloc (Nat.le_refl _) (.cells #[.int .i64 c2.room, .int .i64 c2.clock, .slice ar4 c2.held.length kr4] TS)) rfl)
                            have lpr4 := (Dpr3.out.below br4 rfl).lt
                            have Cqr4 := CellSh.new sr4
                            have BLr4 := Lib.hid ((BLr3.out.trans (br4.mono BLr3.out.size)).alloc (Nat.le_trans BLr3.out.size br4.size) (.cells #[.int .i64 c2.room, .int .i64 c2.clock, .slice ar4 c2.held.length kr4] TS))
                            have zr4 := Nat.le_trans BLr3.out.size br4.size
                            obtain ⟨Bq, hq⟩ : ∃ B, wr4.heap.size = B := ⟨_, rfl⟩
                            rw [hq] at Cqr4 zr4 lzr4 lmr4 lnr4 lpr4
                            have nzq : ¬ Bz = Bq := by omega
                            have nqz : ¬ Bq = Bz := by omega
                            have nmq : ¬ Bm = Bq := by omega
                            have nqm : ¬ Bq = Bm := by omega
                            have nnq : ¬ Bn = Bq := by omega
                            have nqn : ¬ Bq = Bn := by omega
                            have npq : ¬ Bp = Bq := by omega
                            have nqp : ¬ Bq = Bp := by omega
                            have Dqr4 := Lib.hid Cqr4
                            clear br4 sr4 Cqr4
                            obtain ⟨Vr4, hVr4⟩ : ∃ V, wr4.alloc (.cells #[.int .i64 c2.room, .int .i64 c2.clock, .slice ar4 c2.held.length kr4] TS) = V := ⟨_, rfl⟩
                            rw [hVr4] at BLr4 Dqr4 Czr4 Cmr4 Cnr4 Cpr4
                            obtain ⟨xz0, xz1, xz2, fz0, fz1, fz2⟩ := Czr4.out.cells
                            obtain ⟨xm0, xm1, xm2, fm0, fm1, fm2⟩ := Cmr4.out.cells
                            obtain ⟨xn0, xn1, xn2, fn0, fn1, fn2⟩ := Cnr4.out.cells
                            obtain ⟨xp0, xp1, xp2, fp0, fp1, fp2⟩ := Cpr4.out.cells
                            obtain ⟨xq0, xq1, xq2, fq0, fq1, fq2⟩ := Dqr4.out.cells
                            have t2 : (e1 != e1) = false := by simp
                            have t3 : (gg != gg) = false := by simp
                            have t4 : (e2 != e2) = false := by simp
                            go_wp2_with fail
                            clear hVr4 hq
                            clear xz0 xz1 xz2 fz0 fz1 fz2 xm0 xm1 xm2 fm0 fm1 fm2 xn0 xn1 xn2 fn0 fn1 fn2 xp0 xp1 xp2 fp0 fp1 fp2 xq0 xq1 xq2 fq0 fq1 fq2
                            have hqr5 := Lib.hid (same_lit c1 ar1 ar2 kr1 kr2 _ L1.out Cmr4.out.sh.src Cnr4.out.sh.src)
                            (with_reducible refine hqr5.out.mono ?_)
                            clear hqr5
                            rintro e wr5 ⟨rfl, br5⟩
                            have Qzr5 := Lib.hid (Czr4.out.below br5 rfl)
                            have Qmr5 := Lib.hid (Cmr4.out.below br5 rfl)
                            have Qnr5 := Lib.hid (Cnr4.out.below br5 rfl)
                            have Qpr5 := Lib.hid (Cpr4.out.below br5 rfl)
                            have Qqr5 := Lib.hid (Dqr4.out.below br5 rfl)
                            have BQr5 := Lib.hid (BLr4.out.trans (br5.mono BLr4.out.size))
                            obtain ⟨xp0, xp1, xp2, fp0, fp1, fp2⟩ := Qpr5.out.cells
                            obtain ⟨xq0, xq1, xq2, fq0, fq1, fq2⟩ := Qqr5.out.cells
                            go_wp2_with fail
                            clear xp0 xp1 xp2 fp0 fp1 fp2 xq0 xq1 xq2 fq0 fq1 fq2
                            have hqr6 := Lib.hid (same_lit c2 ar3 ar4 kr3 kr4 _ L2.out Qpr5.out.sh.src Qqr5.out.sh.src)
                            (with_reducible refine hqr6.out.mono ?_)
                            clear hqr6
                            rintro e wr6 ⟨rfl, br6⟩
                            have Qzr6 := Lib.hid (Qzr5.out.below br6 rfl)
                            have Qmr6 := Lib.hid (Qmr5.out.below br6 rfl)
                            have Qnr6 := Lib.hid (Qnr5.out.below br6 rfl)
                            have Qpr6 := Lib.hid (Qpr5.out.below br6 rfl)
                            have Qqr6 := Lib.hid (Qqr5.out.below br6 rfl)
                            have BQr6 := Lib.hid (BQr5.out.trans (br6.mono BQr5.out.size))
                            go_wp2
                            go_roundw
                            case rel => exact ⟨t8 + 1, by omega, by go_num, BQr6⟩
                            case measure => simp [intOf]; omega
                          · have HBX := Lib.hid (BL9.out.trans (hb8.out.mono BL9.out.size))
                            go_wp2
                            go_roundw
                            case rel => exact ⟨t3 + 1, by omega, by go_num, HBX⟩
                            case measure => simp [intOf]; omega
                      exact AllReadyH.nil
                    exact AllReadyH.nil
                  exact AllReadyH.nil
                exact AllReadyH.nil
              exact AllReadyH.nil
            · have HFIN := Lib.hid (BL6.out.trans (hb3.out.mono BL6.out.size))
              go_wp2
              go_ret
              exact ⟨rfl, HFIN.out⟩
        exact AllReadyH.nil
      exact AllReadyH.nil

set_option maxRecDepth 100000 in
set_option maxHeartbeats 400000 in
theorem lifted (os : Os) (started : os.Started) (H : Type) (enc : TypeId × Value → H) :
    ReturnsInHanded {} Try.checked os 3 .any (Rows.cacheTellsSpec.pre6 enc Try.prog Try.f3 Rows.cacheTellsRow.domain false) (Rows.cacheTellsSpec.post enc Try.prog Try.f3 false true false false) := by
  refine returnsInHanded_of_change (C := Try.checked) own started (by kernel_rfl) Try.func3
    (ChangeSpec.witness6 (enc := enc) (C := Try.checked) false ⟨#[], #[.int .i64 0, .slice none 0 0, .int .i64 0, .int .i64 0, .agg #[.int .i64 0, .int .i64 0, .slice none 0 0], .int .i64 0, .string ByteArray.empty], []⟩ 8 (by kernel_rfl) (by kernel_rfl) (by kernel_rfl) (by kernel_rfl)) ?_
  intro W base args ds gs before hval0 hW hcnd _
  have hval : ∀ (j : Nat) t v, Try.f3.params[j]? = some t → args[j]? = some v → Value.okWide Try.prog W .any base t v := hval0
  have hW' := hW
  obtain ⟨p, q, hA0, hV, rfl, hfz, hnd⟩ := hW
  have hA : DataW.TrodAll enc Try.prog W 0 (fun _ => true) true Try.f3.params.toList args.toList ds p := hA0
  rw [Try.params3] at hA hval
  obtain ⟨v0, vs0, d0, ds0, p0, q0, hargs, rfl, rfl, h0, r0⟩ := trodAll_cons hA
  obtain ⟨v1, vs1, d1, ds1, p1, q1, rfl, rfl, rfl, h1, r1⟩ := trodAll_cons r0
  obtain ⟨v2, vs2, d2, ds2, p2, q2, rfl, rfl, rfl, h2, r2⟩ := trodAll_cons r1
  obtain ⟨v3, vs3, d3, ds3, p3, q3, rfl, rfl, rfl, h3, r3⟩ := trodAll_cons r2
  obtain ⟨v4, vs4, d4, ds4, p4, q4, rfl, rfl, rfl, h4, r4⟩ := trodAll_cons r3
  obtain ⟨v5, vs5, d5, ds5, p5, q5, rfl, rfl, rfl, h5, r5⟩ := trodAll_cons r4
  obtain ⟨v6, vs6, d6, ds6, p6, q6, rfl, rfl, rfl, h6, r6⟩ := trodAll_cons r5
  obtain ⟨rfl, rfl, rfl⟩ := trodAll_nil r6
  obtain rfl : args = #[v0, v1, v2, v3, v4, v5, v6] := by cases args; simp_all
  obtain ⟨rfl, rfl⟩ := trodVars_none hV
  obtain ⟨a0, rfl, rfl, rfl, w0⟩ := open_int Try.underlying3 (hval 0 3 v0 rfl rfl) h0
  obtain ⟨a1, len1, cap1, rfl⟩ := okWide_slice Try.underlying22 (hval 1 22 v1 rfl rfl)
  have k1 := h1
  have lt1 : ∀ x ∈ p1, x.block < W.heap.size := by obtain ⟨m, hm⟩ := k1; exact DataW.trod_lt m _ _ _ hm
  obtain ⟨z1, w1⟩ : ∃ g, Kit.IsPairs .i64 W a1 len1 cap1 g := Kit.open_pairs Try.underlying22 Try.underlying45 Try.underlying3 (by kernel_rfl) (by kernel_rfl) h1
  obtain ⟨a2, rfl, rfl, rfl, w2⟩ := open_int Try.underlying3 (hval 2 3 v2 rfl rfl) h2
  obtain ⟨a3, rfl, rfl, rfl, w3⟩ := open_int Try.underlying3 (hval 3 3 v3 rfl rfl) h3
  have k4 := h4
  have lt4 : ∀ x ∈ p4, x.block < W.heap.size := by obtain ⟨m, hm⟩ := k4; exact DataW.trod_lt m _ _ _ hm
  obtain ⟨c4, a4, cap4, rfl, w4⟩ := Cache.open_shelf h4
  obtain ⟨a5, rfl, rfl, rfl, w5⟩ := open_int Try.underlying3 (hval 5 3 v5 rfl rfl) h5
  obtain ⟨a6, rfl, rfl, rfl, w6⟩ := open_string Try.underlying9 (hval 6 9 v6 rfl rfl) h6
  clear hA0 hval0
  refine (walk a0 a1 len1 cap1 z1 a2 a3 c4 a4 cap4 a5 a6 W w0 w1 w2 w3 w4 w5 w6).mono fun e W' ⟨he, bel⟩ => ?_
  subst he
  exact ⟨_, rfl, _, _, _, [], _, [], hW', trodAll_mk1 (shut_bool Try.underlying4 _), (trodAll_cons_mk (shut_int Try.underlying3 w0) (trodAll_cons_mk (Below.trod laidOut (by kernel_rfl) (of_decide_eq_true (by kernel_rfl)) k1 bel lt1) (trodAll_cons_mk (shut_int Try.underlying3 w2) (trodAll_cons_mk (shut_int Try.underlying3 w3) (trodAll_cons_mk (Below.trod laidOut (by kernel_rfl) (of_decide_eq_true (by kernel_rfl)) k4 bel lt4) (trodAll_cons_mk (shut_int Try.underlying3 w5) (trodAll_cons_mk (shut_string Try.underlying9 w6) trodAll_mk0))))))), rfl, bel.frame _, fun h => by cases h⟩

theorem over : Rows.cacheTellsRow.holds Try.pinned (OpenSpec.ofChange Rows.cacheTellsSpec) :=
  OpenClaim.holds_of_wide 3 Try.f3 rfl rfl rfl rfl rfl rfl rfl ⟨rfl, rfl, rfl, rfl, rfl⟩ rfl rfl rfl rfl rfl (by kernel_rfl) Try.func3 (by kernel_rfl)
    (of_decide_eq_true (by kernel_rfl)) (by unfold Func.isWrapper; first | (rw [if_pos (by decide +kernel)]; kernel_rfl) | (rw [if_neg (by decide +kernel)]; exact ⟨rfl, rfl⟩))
    (fun os started H enc _ => lifted os started H enc)

theorem proved : Rows.CacheTellsSaid := over
#print axioms proved
end Go.Proofs.Ytpkhafijmbgcnaa.cacheTells
