/-
  The law CacheList of chapter 21 returns true: a shelf does what a plain list does, in which what is used comes first, and what is beyond the room goes: whatever is kept, and taken.
  For every input: no condition.
-/
import Derived.Test.YtpkhafijmbgcnaaRows
import Derived.Test.YtpkhafijmbgcnaaDLaw2
import Derived.Test.YtpkhafijmbgcnaaLPlain
import Derived.Test.YtpkhafijmbgcnaaLMem
import Derived.WalkLawsBesides
import Derived.WalkSpells
import Derived.Lib.Hide
import Derived.BigQuiet
import Derived.Deep.DeepCutAuto
import Derived.WalkKit
import Derived.ProofKit
import Derived.OpenShut
import Derived.ShutString
import Derived.ChangeOld
import Derived.Below
import Derived.Test.YtpkhafijmbgcnaaKit
namespace Go.Proofs.Ytpkhafijmbgcnaa.cacheList
set_option linter.unusedVariables false
open Go.RowKit
open Cache Go.Shelf
open Go.ChangeShapes Go.WideShapes Go.ChangeAt Go.RowKit
open Go.ChangeMaps (open_string shut_string)

theorem own : ownKnob Try.prog.godebug = none := by kernel_rfl
theorem laidOut : laidOutB Try.prog = true := by kernel_rfl

theorem old_cell {w w5 : World} {x y z : Value} (hb : Below (w.alloc (.cells #[x, y, z] TS)).drew.heap.size (w.alloc (.cells #[x, y, z] TS)).drew w5) : w5.heap[w.heap.size]? = some (.cells #[x, y, z] TS (0, 0)) :=
  (hb.block w.heap.size (by show _ < (w.alloc (.cells #[x, y, z] TS)).heap.size; rw [size_alloc']; exact Nat.lt_succ_self _)).trans (World.alloc_heap_new w _)
theorem zero_cell {w w5 : World} (hb : Below (w.alloc (.cells #[.int .i64 0, .int .i64 0, .slice none 0 0] TS)).drew.heap.size (w.alloc (.cells #[.int .i64 0, .int .i64 0, .slice none 0 0] TS)).drew w5) : CellSh w5 w.heap.size zero none 0 := ⟨old_cell hb, ShW.zero _⟩
/-- What the loop holds of its world. -/
def ListAt (n m : Nat) (w : World) (Bc Bt : Nat) (p : Option Addr) (cp : Nat) (l : List Int) (wr : World) : Prop := ∃ c a k t, CellSh wr Bc c a k ∧ Txts wr Bt t ∧ Plain wr Bc p cp l ∧ Listed n m c l t ∧ Below w.heap.size w wr
/-- What a use leaves ahead of the new list. -/
def NextAt (n m : Nat) (w : World) (Bc Bt : Nat) (p : Option Addr) (cp : Nat) (r : List Int) (b : Int) (wr : World) : Prop := ∃ c a k t, CellSh wr Bc c a k ∧ Txts wr Bt t ∧ Plain wr Bc p cp r ∧ Listed n m c (b :: out b r) t ∧ r.length ≤ 6 ∧ Below w.heap.size w wr
/-- What a shelf's new one leaves. -/
def KeptAt (w : World) (Bc Bt D : Nat) (p : Option Addr) (cp : Nat) (l : List Int) (t : Nat → ByteArray) (c : Sh) (a : Option Addr) (k : Nat) (c' : Sh) (a' : Option Addr) (k' : Nat) (wr : World) : Prop := CellSh wr D c' a' k' ∧ CellSh wr Bc c a k ∧ Txts wr Bt t ∧ Plain wr Bc p cp l ∧ Below w.heap.size w wr ∧ Bc < D ∧ Bt < D
set_option linter.unusedSimpArgs false
set_option maxRecDepth 100000 in
set_option maxHeartbeats 4000000 in
theorem walk (a0 : Int) (a1 : Option Addr) (len1 cap1 : Nat) (z1 : Nat → Int × Int) (w : World) (w0 : (Lit.int .i64 a0).wf = true) (w1 : Kit.IsPairs .i64 w a1 len1 cap1 z1) :
    Calls Try.prog 4 #[.int .i64 a0, .slice a1 len1 cap1] w fun e w' => e = .returned (.bool true) ∧ Below w.heap.size w w' := by
  have HPS := Lib.hid w1
  obtain ⟨l0, u0⟩ := bounds_i64 w0
  have hlm : len1 ≤ maxLen := Nat.le_trans w1.1 w1.2.1
  unfold maxLen at hlm
  obtain ⟨rn, hrn, hpr⟩ := pick_nat a0 6 l0 u0 (by omega) (by omega) 6 rfl
  have HPR := Lib.hid hpr
  clear w0 w1 hpr l0 u0
  obtain ⟨n, hnn⟩ : ∃ n : Nat, 1 + (rn : Int) = (n : Int) := ⟨1 + rn, by omega⟩
  have hn1 : 1 ≤ n := by omega
  have hn6 : n ≤ 6 := by omega
  obtain ⟨c0, hc0⟩ : ∃ c, c = (⟨(n : Int), 0, []⟩ : Sh) := ⟨_, rfl⟩
  have L0 := Lib.hid (show Listed n 0 c0 [] (fun _ => ⟨#[]⟩) by rw [hc0]; exact Listed.start n hn1 hn6 _)
  have N0 := Lib.hid (show newS (n : Int) = c0 by rw [hc0]; exact newS_of (by omega) (by omega))
  have N0' := Lib.hid (newE_of (room := (n : Int)) (by omega) (by omega))
  clear hc0
  go_enter Try.func4, Try.ntmps4
  go_wp2_with fail
  refine (awake_any _).mono ?_
  rintro e w1 ⟨rfl, b1⟩
  have BL0 := Lib.hid b1
  clear b1
  go_wp2_with fail
  refine (HPR.out _).mono ?_
  rintro e w9 ⟨rfl, rfl⟩
  go_wp2_with fail
  refine (new_lit _ N0.out N0'.out _).mono ?_
  rintro e w2 ⟨rfl, s2, b2⟩
  have C2 := Lib.hid (CellSh.new s2)
  have BL2 := Lib.hid ((BL0.out.trans (b2.mono BL0.out.size)).alloc (Nat.le_trans BL0.out.size b2.size) (.cells #[.int .i64 c0.room, .int .i64 c0.clock, .slice none c0.held.length 0] TS))
  have z2 := Nat.le_trans BL0.out.size b2.size
  obtain ⟨Bc, hBc⟩ : ∃ B, w2.heap.size = B := ⟨_, rfl⟩
  rw [hBc] at C2 z2
  obtain ⟨V, hV⟩ : ∃ V, w2.alloc (.cells #[.int .i64 c0.room, .int .i64 c0.clock, .slice none c0.held.length 0] TS) = V := ⟨_, rfl⟩
  rw [hV] at C2 BL2
  clear s2 b2
  obtain ⟨Bt, hBt⟩ : ∃ B, V.heap.size = B := ⟨_, rfl⟩
  have hcb := C2.out.lt
  have HAT := Lib.hid (show ListAt n 0 w Bc V.heap.size none 0 [] (V.alloc (.cells #[.string ⟨#[]⟩, .string ⟨#[]⟩, .string ⟨#[]⟩, .string ⟨#[]⟩, .string ⟨#[]⟩, .string ⟨#[]⟩, .string ⟨#[]⟩, .string ⟨#[]⟩] 44)) from ⟨c0, none, 0, _, C2.out.below ((Below.refl _ _).alloc (Nat.le_refl _) _) rfl, Txts.new V _ (fun _ => rfl), Plain.nil' _ _, L0.out, BL2.out.alloc BL2.out.size _⟩)
  rw [hBt] at HAT hcb
  have hwc : w.heap.size ≤ Bc := z2
  have hwt : w.heap.size ≤ Bt := by omega
  clear C2 BL2 L0 N0 N0' z2 BL0
  go_wp2
  clear hV hBc hBt hnn
  go_loopw [9, 11] (fun v i wr => ∃ (j : Nat) (p : Option Addr) (l : List Int) (cp : Nat), j ≤ len1 ∧ j ≤ 60 ∧ i = .int .i64 j ∧ v = .slice p l.length cp ∧ RowKit.Hid (ListAt n j w Bc Bt p cp l wr)) (fun _ i _ => len1 - (intOf i).toNat)
  case atStart => exact ⟨0, none, [], 0, by omega, by omega, rfl, rfl, HAT⟩
  case round =>
    obtain ⟨j, p, l, cp, hj, hj60, rfl, rfl, hat⟩ := hrel
    obtain ⟨c, a, k, t, hcc, htx, hpl, hli, hb⟩ := hat.out
    have CC := Lib.hid hcc
    have TX := Lib.hid htx
    have PL := Lib.hid hpl
    have LI := Lib.hid hli
    have BL := Lib.hid hb
    have zr := hb.size
    have lc := hcc.lt
    have ltt := htx.lt
    have ntc : ¬ Bc = Bt := htx.ne hcc
    have hlen := hli.le
    have LC := Lib.hid (show c.held.length ≤ 1000000 by have := hli.s.len; omega)
    have hcp := hpl.room
    clear hcc htx hpl hli hb hat HAT
    obtain ⟨m, hm⟩ : ∃ m, l.length = m := ⟨_, rfl⟩
    have HM := Lib.hid hm
    rw [hm] at hlen hcp ⊢
    clear hm
    obtain ⟨wo, rfl⟩ : ∃ wo : World, wo = wr := ⟨_, rfl⟩
    by_cases hc : j < len1 ∧ j < 60
    · obtain ⟨hc1, hc2⟩ := hc
      obtain ⟨b0, off, ha, g0, g1, k0w, k1w⟩ := HPS.out.2.2 j hc1
      subst ha
      obtain ⟨u, hu⟩ : ∃ u, (z1 j).1 = u := ⟨_, rfl⟩
      obtain ⟨v, hv⟩ : ∃ v, (z1 j).2 = v := ⟨_, rfl⟩
      rw [hu] at g0 k0w
      rw [hv] at g1 k1w
      have hbl : b0 < w.heap.size := block_lt_of_cell g0
      have y0 : wo.cell? ⟨b0, off + j * 2, none⟩ = some (.int .i64 u) := by rw [BL.out.cell (p := ⟨b0, off + j * 2, none⟩) hbl]; exact g0
      have y1 : wo.cell? ⟨b0, off + j * 2 + 1, none⟩ = some (.int .i64 v) := by rw [BL.out.cell (p := ⟨b0, off + j * 2 + 1, none⟩) hbl]; exact g1
      obtain ⟨u1, u2⟩ := bounds_i64 k0w
      obtain ⟨v1, v2⟩ := bounds_i64 k1w
      obtain ⟨q, hq, hpq⟩ := pick_nat v 8 v1 v2 (by omega) (by omega) 8 rfl
      obtain ⟨s, hs, hps⟩ := pick_nat u 3 u1 u2 (by omega) (by omega) 3 rfl
      have HPQ := Lib.hid hpq
      have HPT := Lib.hid hps
      clear hu hv g0 g1 k0w k1w u1 u2 v1 v2 hpq hps
      have hq0 : (0 : Int) ≤ (q : Int) := by omega
      have hq8 : (q : Int) < 8 := by omega
      go_wp2_with fail
      refine (HPQ.out _).mono ?_
      rintro e w9 ⟨rfl, rfl⟩
      go_wp2
      clear y1
      go_loopw [13, 14] (fun x i wr => ∃ (z : Int) (i' : Nat), i' ≤ m ∧ x = .int .i64 z ∧ i = .int .i64 i' ∧ RowKit.Hid (AtAt z (q : Int) (l.take i')) ∧ wo = wr) (fun _ i _ => m - (intOf i).toNat)
      case atStart => exact ⟨-1, 0, by omega, rfl, rfl, Lib.hid ⟨by omega, by omega, by simp⟩, rfl⟩
      case round =>
        obtain ⟨z, i, hi, rfl, rfl, hz, hw⟩ := hrel
        subst hw
        by_cases hin : i < m
        · obtain ⟨x, hx⟩ : ∃ x, l[i]? = some x := ⟨l[i]'(by rw [HM.out]; exact hin), List.getElem?_eq_getElem _⟩
          obtain ⟨pb, po, hp, hpb, hpc⟩ := PL.out.at_ i x hx
          subst hp
          by_cases hxq : x = (q : Int)
          · have HZ := Lib.hid (AtAt.hit hz.out hx hxq (by omega))
            have tt : (x == (q : Int)) = true := by simp [hxq]
            clear hx hxq hz
            go_wp2
            go_roundw
            case rel => exact ⟨(i : Int), i + 1, by omega, rfl, by go_num, HZ, trivial⟩
            case measure => simp [intOf]; omega
          · have HZ := Lib.hid (AtAt.miss hz.out hx hxq)
            have tt : (x == (q : Int)) = false := by simpa using hxq
            clear hx hxq hz
            go_wp2
            go_roundw
            case rel => exact ⟨z, i + 1, by omega, rfl, by go_num, HZ, trivial⟩
            case measure => simp [intOf]; omega
        · have him : i = m := by omega
          have hz2 : AtAt z (q : Int) l := by have := hz.out; rwa [List.take_of_length_le (by rw [HM.out]; omega)] at this
          have HZ := Lib.hid hz2
          clear hz hz2 him
          go_upto_if 70 with (refine (HPT.out _).mono ?_; rintro e w9 ⟨rfl, rfl⟩)
          clear hin hi
          go_cut [9] (fun v wx => ∃ (p' : Option Addr) (cp' : Nat) (r : List Int), v = .slice p' r.length cp' ∧ RowKit.Hid (NextAt n (j + 1) w Bc Bt p' cp' r (q : Int) wx))
          case first =>
            have hcase : s = 0 ∨ s = 1 ∨ s = 2 := by omega
            rcases hcase with rfl | rfl | rfl
            · rcases LI.out.take (by omega) q hq with ⟨hin, c', htk, hl'⟩ | ⟨hin, st, c', htk⟩
              · have HTK := Lib.hid htk
                have HL := Lib.hid hl'
                have hz0 : decide (0 ≤ z) = true := decide_eq_true (HZ.out.2.2.2 hin)
                clear htk hl' hin y0
                obtain ⟨xc0, xc1, xc2, fc0, fc1, fc2⟩ := CC.out.cells
                go_wp2_with fail
                clear xc0 xc1 xc2 fc0 fc1 fc2
                have hq1 := Lib.hid (take_lit c a k (q : Int) HTK.out _ LC.out CC.out.sh (by omega) (by omega))
                (with_reducible refine hq1.out.mono ?_)
                clear hq1
                rintro e w5 ⟨a5, k5, rfl, s5, b5⟩
                obtain ⟨D, hD⟩ : ∃ D, w5.heap.size = D := ⟨_, rfl⟩
                obtain ⟨V5, hV5⟩ : ∃ V, w5.alloc (.cells #[.int .i64 c'.room, .int .i64 c'.clock, .slice a5 c'.held.length k5] TS) = V := ⟨_, rfl⟩
                have bV : Below wo.heap.size wo V5 := by rw [← hV5]; exact b5.alloc b5.size _
                have CX := Lib.hid (show CellSh V5 D c' a5 k5 by rw [← hV5, ← hD]; exact CellSh.new s5)
                have CC1 := Lib.hid (CC.out.below bV rfl)
                have TX1 := Lib.hid (TX.out.below bV rfl)
                have PL1 := Lib.hid (PL.out.below bV rfl)
                have BL1 := Lib.hid (BL.out.trans (bV.mono zr))
                clear bV b5 s5
                have hx0 := TX1.out.at_ q hq
                obtain ⟨xc0, xc1, xc2, fc0, fc1, fc2⟩ := CC1.out.cells
                obtain ⟨xx0, xx1, xx2, fx0, fx1, fx2⟩ := CX.out.cells
                go_wp2
                go_meet
                exact ⟨p, cp, l, by rw [HM.out], Lib.hid ⟨c', a5, k5, t, CC1.out.set CX.out.sh, TX1.out.put3 CC1.out _ _ _, PL1.out.put3 _ _ _, HL.out, by rw [HM.out]; omega, Below.put3 BL1.out hwc _ _ _⟩⟩
              · have HTK := Lib.hid htk
                have hz0 : decide (0 ≤ z) = false := decide_eq_false (fun h => hin (HZ.out.2.2.1 h))
                clear htk hin y0
                obtain ⟨xc0, xc1, xc2, fc0, fc1, fc2⟩ := CC.out.cells
                go_wp2_with fail
                clear xc0 xc1 xc2 fc0 fc1 fc2
                have hq1 := Lib.hid (take_lit c a k (q : Int) HTK.out _ LC.out CC.out.sh (by omega) (by omega))
                (with_reducible refine hq1.out.mono ?_)
                clear hq1
                rintro e w5 ⟨a5, k5, rfl, s5, b5⟩
                obtain ⟨D, hD⟩ : ∃ D, w5.heap.size = D := ⟨_, rfl⟩
                obtain ⟨V5, hV5⟩ : ∃ V, w5.alloc (.cells #[.int .i64 c'.room, .int .i64 c'.clock, .slice a5 c'.held.length k5] TS) = V := ⟨_, rfl⟩
                have bV : Below wo.heap.size wo V5 := by rw [← hV5]; exact b5.alloc b5.size _
                have CX := Lib.hid (show CellSh V5 D c' a5 k5 by rw [← hV5, ← hD]; exact CellSh.new s5)
                have CC1 := Lib.hid (CC.out.below bV rfl)
                have TX1 := Lib.hid (TX.out.below bV rfl)
                have PL1 := Lib.hid (PL.out.below bV rfl)
                have BL1 := Lib.hid (BL.out.trans (bV.mono zr))
                clear bV b5 s5
                go_wp2
                go_roundw
                case rel => exact ⟨j + 1, p, l, cp, by omega, by omega, by go_num, by rw [HM.out], Lib.hid ⟨c, a, k, t, CC1.out, TX1.out, PL1.out, LI.out.mono (by omega), BL1.out⟩⟩
                case measure => simp [intOf]; omega
            · obtain ⟨gg, c', r, hkp, hgo, hl'⟩ := LI.out.keep (by omega) q hq ⟨#[98]⟩
              have HKP := Lib.hid hkp
              have HGO := Lib.hid hgo
              have HL := Lib.hid hl'
              have bA : Below wo.heap.size wo (wo.alloc (.cells #[.string ⟨#[97]⟩, .string ⟨#[98]⟩, .string ⟨#[99, 99]⟩] 9)) := (Below.refl _ _).alloc (Nat.le_refl _) _
              have TXa := TX.out.below bA rfl
              obtain ⟨W1, hW1⟩ : ∃ W, (wo.alloc (.cells #[.string ⟨#[97]⟩, .string ⟨#[98]⟩, .string ⟨#[99, 99]⟩] 9)).setCell ⟨Bt, q, none⟩ (.string ⟨#[98]⟩) = W := ⟨_, rfl⟩
              have TX1 := Lib.hid (show Txts W1 Bt (fun y => if y = q then ⟨#[98]⟩ else t y) by rw [← hW1]; exact TXa.set q hq ⟨#[98]⟩)
              have CC1 := Lib.hid (show CellSh W1 Bc c a k by rw [← hW1]; exact (CC.out.below bA rfl).tset TXa q _)
              have PL1 := Lib.hid (show Plain W1 Bc p cp l by rw [← hW1]; exact (PL.out.below bA rfl).tset TXa q _)
              have BL1 := Lib.hid (show Below w.heap.size w W1 by rw [← hW1]; exact (BL.out.trans (bA.mono zr)).setCell hwt _)
              have zr1 := BL1.out.size
              have lc1 := CC1.out.lt
              have lt1 := TX1.out.lt
              have hx1 := TXa.at_ q hq
              have hf1 := TXa.fz q
              have y2 : (wo.alloc (.cells #[.string ⟨#[97]⟩, .string ⟨#[98]⟩, .string ⟨#[99, 99]⟩] 9)).cell? ⟨b0, off + j * 2, none⟩ = some (.int .i64 u) := cellAl y0 _
              clear hkp hgo hl' bA TXa y0
              go_upto_region 25 with (refine (HPT.out _).mono ?_; rintro e w9 ⟨rfl, rfl⟩)
              clear hx1 hf1 y2 hW1
              go_cut [18, 19, 20] (fun s18 s19 s20 wx => s18 = .int .i64 gg ∧ s20 = .int .i64 0 ∧ ∃ D a' k', s19 = .pointer (some ⟨D, 0, none⟩) ∧ RowKit.Hid (KeptAt w Bc Bt D p cp l (fun y => if y = q then ⟨#[98]⟩ else t y) c a k c' a' k' wx))
              case first =>
                refine wp_region_held_drew (S := fun w' => CellSh w' Bc c a k ∧ Txts w' Bt (fun y => if y = q then ⟨#[98]⟩ else t y) ∧ Plain w' Bc p cp l) (by kernel_rfl) ⟨CC1.out.below (Below.refl _ _).drew rfl, TX1.out.below (Below.refl _ _).drew rfl, PL1.out.below (Below.refl _ _).drew rfl⟩ (fun hHeld => ?_)
                refine wpAnyH_take (i := 0) (v := .agg #[.int .i64 c.room, .int .i64 c.clock, .slice a c.held.length k]) rfl (by kernel_rfl) (by kernel_rfl) (by kernel_rfl) (fun _ _ _ h => h) (Or.inl ⟨by rfl, fun w hSw => by obtain ⟨x0, x1, x2, f0, f1, f2⟩ := hSw.1.cells; go_simp⟩) hHeld ?_
                try simp only [List.getElem_toArray, List.getElem_cons_succ, List.getElem_cons_zero, Act.put, List.setIfInBounds_toArray, List.set_cons_zero, List.set_cons_succ]
                refine wpAnyH_take (i := 1) (v := .int .i64 (q : Int)) rfl (by kernel_rfl) (by kernel_rfl) (by kernel_rfl) (fun _ _ _ h => h) (Or.inl ⟨by rfl, fun w hSw => by (try dsimp only at hSw); go_simp⟩) hHeld ?_
                try simp only [List.getElem_toArray, List.getElem_cons_succ, List.getElem_cons_zero, Act.put, List.setIfInBounds_toArray, List.set_cons_zero, List.set_cons_succ]
                refine wpAnyH_take (i := 2) (v := .int .i64 (q : Int)) rfl (by kernel_rfl) (by kernel_rfl) (by kernel_rfl) (fun _ _ _ h => h) (Or.inl ⟨by rfl, fun w hSw => by (try dsimp only at hSw); go_simp⟩) hHeld ?_
                try simp only [List.getElem_toArray, List.getElem_cons_succ, List.getElem_cons_zero, Act.put, List.setIfInBounds_toArray, List.set_cons_zero, List.set_cons_succ]
                refine wpAnyH_take (i := 3) (v := .pointer (some ⟨Bt, q, none⟩)) rfl (by kernel_rfl) (by kernel_rfl) (by kernel_rfl) (fun _ _ _ h => h) (Or.inl ⟨by rfl, fun w hSw => by (try dsimp only at hSw); go_simp⟩) hHeld ?_
                try simp only [List.getElem_toArray, List.getElem_cons_succ, List.getElem_cons_zero, Act.put, List.setIfInBounds_toArray, List.set_cons_zero, List.set_cons_succ]
                refine wpAnyH_take (i := 4) (v := .string ⟨#[98]⟩) rfl (by kernel_rfl) (by kernel_rfl) (by kernel_rfl) (fun _ _ _ h => h) (Or.inl ⟨by rfl, fun w hSw => by have hx0 := hSw.2.1.at_ q hq; rw [if_pos rfl] at hx0; go_simp⟩) hHeld ?_
                try simp only [List.getElem_toArray, List.getElem_cons_succ, List.getElem_cons_zero, Act.put, List.setIfInBounds_toArray, List.set_cons_zero, List.set_cons_succ]
                refine wpAnyH_ready (rs := [5, 10]) (by kernel_rfl) (by simp) ?_
                refine AllReadyH.cons rfl (fun K hK => ?_) ?_
                · go_simp
                  go_at_call 23
                  have hq5 := Lib.hid (keep_lit c a k (q : Int) ⟨#[98]⟩ HKP.out _ LC.out hHeld.1.sh (by omega) (by omega))
                  (with_reducible refine hq5.out.mono ?_)
                  clear hq5
                  rintro e w5 ⟨a5, k5, rfl, s5, b5⟩
                  have BE5 := Lib.hid (BL1.out.drew.trans (b5.mono (by exact zr1)))
                  refine hK.out _ _ ?_ (fun hHeld => ?_)
                  · exact ⟨hHeld.1.below b5 rfl, hHeld.2.1.below b5 rfl, hHeld.2.2.below b5 rfl⟩
                  clear hK K
                  try simp only [List.getElem_toArray, List.getElem_cons_succ, List.getElem_cons_zero, Act.put, List.setIfInBounds_toArray, List.set_cons_zero, List.set_cons_succ]
                  refine wpAnyH_take (i := 6) (v := .tuple #[.int .i64 gg, .agg #[.int .i64 c'.room, .int .i64 c'.clock, .slice a5 c'.held.length k5], .int .i64 0]) rfl (by kernel_rfl) (by kernel_rfl) (by kernel_rfl) (fun _ _ _ h => h) (Or.inl ⟨by rfl, fun w hSw => by (try dsimp only at hSw); go_simp⟩) hHeld ?_
                  try simp only [List.getElem_toArray, List.getElem_cons_succ, List.getElem_cons_zero, Act.put, List.setIfInBounds_toArray, List.set_cons_zero, List.set_cons_succ]
                  refine wpAnyH_take (i := 7) (v := .int .i64 gg) rfl (by kernel_rfl) (by kernel_rfl) (by kernel_rfl) (fun _ _ _ h => h) (Or.inl ⟨by rfl, fun w hSw => by (try dsimp only at hSw); go_simp⟩) hHeld ?_
                  try simp only [List.getElem_toArray, List.getElem_cons_succ, List.getElem_cons_zero, Act.put, List.setIfInBounds_toArray, List.set_cons_zero, List.set_cons_succ]
                  refine wpAnyH_take (i := 8) (v := .agg #[.int .i64 c'.room, .int .i64 c'.clock, .slice a5 c'.held.length k5]) rfl (by kernel_rfl) (by kernel_rfl) (by kernel_rfl) (fun _ _ _ h => h) (Or.inl ⟨by rfl, fun w hSw => by (try dsimp only at hSw); go_simp⟩) hHeld ?_
                  try simp only [List.getElem_toArray, List.getElem_cons_succ, List.getElem_cons_zero, Act.put, List.setIfInBounds_toArray, List.set_cons_zero, List.set_cons_succ]
                  refine wpAnyH_take (i := 9) (v := .int .i64 0) rfl (by kernel_rfl) (by kernel_rfl) (by kernel_rfl) (fun _ _ _ h => h) (Or.inl ⟨by rfl, fun w hSw => by (try dsimp only at hSw); go_simp⟩) hHeld ?_
                  try simp only [List.getElem_toArray, List.getElem_cons_succ, List.getElem_cons_zero, Act.put, List.setIfInBounds_toArray, List.set_cons_zero, List.set_cons_succ]
                  refine wpAnyH_ready (rs := [10]) (by kernel_rfl) (by simp) ?_
                  refine AllReadyH.cons rfl (fun K hK => ?_) ?_
                  · have HH5 := Lib.hid hHeld
                    go_simp
                    refine hK.out _ _ ?_ (fun hHeld => ?_)
                    · exact ⟨hHeld.1.below ((Below.refl _ _).alloc (Nat.le_refl _) _) rfl, hHeld.2.1.below ((Below.refl _ _).alloc (Nat.le_refl _) _) rfl, hHeld.2.2.below ((Below.refl _ _).alloc (Nat.le_refl _) _) rfl⟩
                    clear hK K
                    try simp only [List.getElem_toArray, List.getElem_cons_succ, List.getElem_cons_zero, Act.put, List.setIfInBounds_toArray, List.set_cons_zero, List.set_cons_succ]
                    refine wpAnyH_take (i := 11) (v := .int .i64 gg) rfl (by kernel_rfl) (by kernel_rfl) (by kernel_rfl) (fun _ _ _ h => h) (Or.inl ⟨by rfl, fun w hSw => by (try dsimp only at hSw); go_simp⟩) hHeld ?_
                    try simp only [List.getElem_toArray, List.getElem_cons_succ, List.getElem_cons_zero, Act.put, List.setIfInBounds_toArray, List.set_cons_zero, List.set_cons_succ]
                    refine wpAnyH_ready (rs := [12]) (by kernel_rfl) (by simp) ?_
                    refine AllReadyH.cons rfl (fun K hK => ?_) ?_
                    · go_simp
                      refine hK.out _ _ ?_ (fun hHeld => ?_)
                      · exact ⟨HH5.out.1.below ((Below.refl _ _).alloc (Nat.le_refl _) _) rfl, HH5.out.2.1.below ((Below.refl _ _).alloc (Nat.le_refl _) _) rfl, HH5.out.2.2.below ((Below.refl _ _).alloc (Nat.le_refl _) _) rfl⟩
                      clear hK K
                      try simp only [List.getElem_toArray, List.getElem_cons_succ, List.getElem_cons_zero, Act.put, List.setIfInBounds_toArray, List.set_cons_zero, List.set_cons_succ]
                      refine wpAnyH_take (i := 13) (v := .int .i64 0) rfl (by kernel_rfl) (by kernel_rfl) (by kernel_rfl) (fun _ _ _ h => h) (Or.inl ⟨by rfl, fun w hSw => by (try dsimp only at hSw); go_simp⟩) hHeld ?_
                      try simp only [List.getElem_toArray, List.getElem_cons_succ, List.getElem_cons_zero, Act.put, List.setIfInBounds_toArray, List.set_cons_zero, List.set_cons_succ]
                      refine wpAnyH_done (by kernel_rfl) ?_ _
                      go_wp2_with fail
                      go_meet
                      exact ⟨rfl, rfl, w5.heap.size, a5, k5, rfl, Lib.hid ⟨CellSh.new s5, hHeld.1, hHeld.2.1, hHeld.2.2, BE5.out.alloc BE5.out.size _, Nat.lt_of_lt_of_le lc1 b5.size, Nat.lt_of_lt_of_le lt1 b5.size⟩⟩
                    exact AllReadyH.nil
                  exact AllReadyH.nil
                refine AllReadyH.cons rfl (fun K hK => ?_) ?_
                · go_simp
                  refine hK.out _ _ ?_ (fun hHeld => ?_)
                  · exact ⟨hHeld.1.below ((Below.refl _ _).alloc (Nat.le_refl _) _) rfl, hHeld.2.1.below ((Below.refl _ _).alloc (Nat.le_refl _) _) rfl, hHeld.2.2.below ((Below.refl _ _).alloc (Nat.le_refl _) _) rfl⟩
                  clear hK K
                  try simp only [List.getElem_toArray, List.getElem_cons_succ, List.getElem_cons_zero, Act.put, List.setIfInBounds_toArray, List.set_cons_zero, List.set_cons_succ]
                  refine wpAnyH_ready (rs := [5]) (by kernel_rfl) (by simp) ?_
                  refine AllReadyH.cons rfl (fun K hK => ?_) ?_
                  · go_simp
                    go_at_call 23
                    have hq5 := Lib.hid (keep_lit c a k (q : Int) ⟨#[98]⟩ HKP.out _ LC.out hHeld.1.sh (by omega) (by omega))
                    (with_reducible refine hq5.out.mono ?_)
                    clear hq5
                    rintro e w5 ⟨a5, k5, rfl, s5, b5⟩
                    have z5 := Lib.hid (zero_cell b5)
                    have BE5 := Lib.hid ((BL1.out.alloc zr1 _).drew.trans (b5.mono (by show _ ≤ (W1.alloc (.cells #[.int .i64 0, .int .i64 0, .slice none 0 0] TS)).heap.size; rw [size_alloc']; exact Nat.le_succ_of_le zr1)))
                    refine hK.out _ _ ?_ (fun hHeld => ?_)
                    · exact ⟨hHeld.1.below b5 rfl, hHeld.2.1.below b5 rfl, hHeld.2.2.below b5 rfl⟩
                    clear hK K
                    try simp only [List.getElem_toArray, List.getElem_cons_succ, List.getElem_cons_zero, Act.put, List.setIfInBounds_toArray, List.set_cons_zero, List.set_cons_succ]
                    refine wpAnyH_take (i := 6) (v := .tuple #[.int .i64 gg, .agg #[.int .i64 c'.room, .int .i64 c'.clock, .slice a5 c'.held.length k5], .int .i64 0]) rfl (by kernel_rfl) (by kernel_rfl) (by kernel_rfl) (fun _ _ _ h => h) (Or.inl ⟨by rfl, fun w hSw => by (try dsimp only at hSw); go_simp⟩) hHeld ?_
                    try simp only [List.getElem_toArray, List.getElem_cons_succ, List.getElem_cons_zero, Act.put, List.setIfInBounds_toArray, List.set_cons_zero, List.set_cons_succ]
                    refine wpAnyH_take (i := 7) (v := .int .i64 gg) rfl (by kernel_rfl) (by kernel_rfl) (by kernel_rfl) (fun _ _ _ h => h) (Or.inl ⟨by rfl, fun w hSw => by (try dsimp only at hSw); go_simp⟩) hHeld ?_
                    try simp only [List.getElem_toArray, List.getElem_cons_succ, List.getElem_cons_zero, Act.put, List.setIfInBounds_toArray, List.set_cons_zero, List.set_cons_succ]
                    refine wpAnyH_take (i := 8) (v := .agg #[.int .i64 c'.room, .int .i64 c'.clock, .slice a5 c'.held.length k5]) rfl (by kernel_rfl) (by kernel_rfl) (by kernel_rfl) (fun _ _ _ h => h) (Or.inl ⟨by rfl, fun w hSw => by (try dsimp only at hSw); go_simp⟩) hHeld ?_
                    try simp only [List.getElem_toArray, List.getElem_cons_succ, List.getElem_cons_zero, Act.put, List.setIfInBounds_toArray, List.set_cons_zero, List.set_cons_succ]
                    refine wpAnyH_take (i := 9) (v := .int .i64 0) rfl (by kernel_rfl) (by kernel_rfl) (by kernel_rfl) (fun _ _ _ h => h) (Or.inl ⟨by rfl, fun w hSw => by (try dsimp only at hSw); go_simp⟩) hHeld ?_
                    try simp only [List.getElem_toArray, List.getElem_cons_succ, List.getElem_cons_zero, Act.put, List.setIfInBounds_toArray, List.set_cons_zero, List.set_cons_succ]
                    refine wpAnyH_take (i := 11) (v := .int .i64 gg) rfl (by kernel_rfl) (by kernel_rfl) (by kernel_rfl) (fun _ _ _ h => h) (Or.inl ⟨by rfl, fun w hSw => by (try dsimp only at hSw); go_simp⟩) hHeld ?_
                    try simp only [List.getElem_toArray, List.getElem_cons_succ, List.getElem_cons_zero, Act.put, List.setIfInBounds_toArray, List.set_cons_zero, List.set_cons_succ]
                    refine wpAnyH_ready (rs := [12]) (by kernel_rfl) (by simp) ?_
                    refine AllReadyH.cons rfl (fun K hK => ?_) ?_
                    · obtain ⟨y0, y1, y2, g0, g1, g2⟩ := z5.out.cells
                      go_simp
                      refine hK.out _ _ ?_ (fun hHeld => ?_)
                      · exact ⟨CellSh.far z5.out hHeld.1 (by omega) _ _ _, hHeld.2.1.put3 z5.out _ _ _, pput hHeld.2.2 (fun g o e => Nat.ne_of_lt (PL1.out.old g o e))⟩
                      clear hK K
                      try simp only [List.getElem_toArray, List.getElem_cons_succ, List.getElem_cons_zero, Act.put, List.setIfInBounds_toArray, List.set_cons_zero, List.set_cons_succ]
                      refine wpAnyH_take (i := 13) (v := .int .i64 0) rfl (by kernel_rfl) (by kernel_rfl) (by kernel_rfl) (fun _ _ _ h => h) (Or.inl ⟨by rfl, fun w hSw => by (try dsimp only at hSw); go_simp⟩) hHeld ?_
                      try simp only [List.getElem_toArray, List.getElem_cons_succ, List.getElem_cons_zero, Act.put, List.setIfInBounds_toArray, List.set_cons_zero, List.set_cons_succ]
                      refine wpAnyH_done (by kernel_rfl) ?_ _
                      go_wp2_with fail
                      go_meet
                      exact ⟨rfl, rfl, W1.heap.size, a5, k5, rfl, Lib.hid ⟨z5.out.set s5, hHeld.1, hHeld.2.1, hHeld.2.2, Below.put3 (B := W1.heap.size) BE5.out zr1 _ _ _, lc1, lt1⟩⟩
                    exact AllReadyH.nil
                  exact AllReadyH.nil
                exact AllReadyH.nil
              case rest =>
                obtain ⟨rfl, rfl, D, a5, k5, rfl, hka⟩ := hcut
                obtain ⟨hcx, hcc, htx, hpl, hb, hd1, hd2⟩ := hka.out
                have CX := Lib.hid hcx
                have CC2 := Lib.hid hcc
                have TX2 := Lib.hid htx
                have PL2 := Lib.hid hpl
                have BL2 := Lib.hid hb
                clear hcx hcc htx hpl hb hka CC1 TX1 PL1 BL1 zr1 lc1 lt1
                rcases HGO.out with ⟨hin, hg, hr⟩ | ⟨hin, hlt, hg, hr⟩ | ⟨hin, hlt, hg, hr⟩
                · have hz0 : decide (z < 0) = false := decide_eq_false (by have := HZ.out.2.2.2 hin; omega)
                  subst hg hr
                  clear hin HGO
                  obtain ⟨xc0, xc1, xc2, fc0, fc1, fc2⟩ := CC2.out.cells
                  obtain ⟨xx0, xx1, xx2, fx0, fx1, fx2⟩ := CX.out.cells
                  go_wp2
                  go_meet
                  exact ⟨p, cp, r, by rw [HM.out], Lib.hid ⟨c', a5, k5, _, CC2.out.set CX.out.sh, TX2.out.put3 CC2.out _ _ _, PL2.out.put3 _ _ _, HL.out, by rw [HM.out]; omega, Below.put3 BL2.out hwc _ _ _⟩⟩
                · have hz0 : decide (z < 0) = true := decide_eq_true (by have h1 := HZ.out.2.2.1; rcases Int.lt_or_le z 0 with h | h; exact h; exact absurd (h1 h) hin)
                  have hmn : ((m : Int) == (n : Int)) = false := by rw [beq_eq_false_iff_ne]; rw [HM.out] at hlt; omega
                  subst hg hr
                  clear hin hlt HGO
                  obtain ⟨xc0, xc1, xc2, fc0, fc1, fc2⟩ := CC2.out.cells
                  obtain ⟨xx0, xx1, xx2, fx0, fx1, fx2⟩ := CX.out.cells
                  go_wp2
                  go_meet
                  exact ⟨p, cp, r, by rw [HM.out], Lib.hid ⟨c', a5, k5, _, CC2.out.set CX.out.sh, TX2.out.put3 CC2.out _ _ _, PL2.out.put3 _ _ _, HL.out, by rw [HM.out]; omega, Below.put3 BL2.out hwc _ _ _⟩⟩
                · have hz0 : decide (z < 0) = true := decide_eq_true (by have h1 := HZ.out.2.2.1; rcases Int.lt_or_le z 0 with h | h; exact h; exact absurd (h1 h) hin)
                  have hmn : m = n := by rw [← HM.out]; exact hlt
                  subst hmn
                  obtain ⟨m', rfl⟩ : ∃ m', m = m' + 1 := ⟨m - 1, by omega⟩
                  obtain ⟨pb, po, hp, hpb, hpc⟩ := PL2.out.at_ _ _ hg
                  subst hp
                  have PL3 := Lib.hid (PL2.out.take m')
                  have hrl : r = l.take m' := hr
                  subst hrl
                  have HRL := Lib.hid (show (l.take m').length = m' by rw [List.length_take, HM.out]; omega)
                  rw [Nat.add_sub_cancel] at hpc
                  clear hin hlt hg hr HGO
                  have hm1 : ((m' + 1 : Nat) : Int) - 1 = (m' : Int) := by omega
                  obtain ⟨xc0, xc1, xc2, fc0, fc1, fc2⟩ := CC2.out.cells
                  obtain ⟨xx0, xx1, xx2, fx0, fx1, fx2⟩ := CX.out.cells
                  go_wp2
                  go_meet
                  exact ⟨_, cp, l.take m', by rw [HRL.out], Lib.hid ⟨c', a5, k5, _, CC2.out.set CX.out.sh, TX2.out.put3 CC2.out _ _ _, PL3.out.put3 _ _ _, HL.out, by rw [HRL.out]; omega, Below.put3 BL2.out hwc _ _ _⟩⟩
            · obtain ⟨gg, c', r, hkp, hgo, hl'⟩ := LI.out.keep (by omega) q hq ⟨#[99, 99]⟩
              have HKP := Lib.hid hkp
              have HGO := Lib.hid hgo
              have HL := Lib.hid hl'
              have bA : Below wo.heap.size wo (wo.alloc (.cells #[.string ⟨#[97]⟩, .string ⟨#[98]⟩, .string ⟨#[99, 99]⟩] 9)) := (Below.refl _ _).alloc (Nat.le_refl _) _
              have TXa := TX.out.below bA rfl
              obtain ⟨W1, hW1⟩ : ∃ W, (wo.alloc (.cells #[.string ⟨#[97]⟩, .string ⟨#[98]⟩, .string ⟨#[99, 99]⟩] 9)).setCell ⟨Bt, q, none⟩ (.string ⟨#[99, 99]⟩) = W := ⟨_, rfl⟩
              have TX1 := Lib.hid (show Txts W1 Bt (fun y => if y = q then ⟨#[99, 99]⟩ else t y) by rw [← hW1]; exact TXa.set q hq ⟨#[99, 99]⟩)
              have CC1 := Lib.hid (show CellSh W1 Bc c a k by rw [← hW1]; exact (CC.out.below bA rfl).tset TXa q _)
              have PL1 := Lib.hid (show Plain W1 Bc p cp l by rw [← hW1]; exact (PL.out.below bA rfl).tset TXa q _)
              have BL1 := Lib.hid (show Below w.heap.size w W1 by rw [← hW1]; exact (BL.out.trans (bA.mono zr)).setCell hwt _)
              have zr1 := BL1.out.size
              have lc1 := CC1.out.lt
              have lt1 := TX1.out.lt
              have hx1 := TXa.at_ q hq
              have hf1 := TXa.fz q
              have y2 : (wo.alloc (.cells #[.string ⟨#[97]⟩, .string ⟨#[98]⟩, .string ⟨#[99, 99]⟩] 9)).cell? ⟨b0, off + j * 2, none⟩ = some (.int .i64 u) := cellAl y0 _
              clear hkp hgo hl' bA TXa y0
              go_upto_region 25 with (refine (HPT.out _).mono ?_; rintro e w9 ⟨rfl, rfl⟩)
              clear hx1 hf1 y2 hW1
              go_cut [18, 19, 20] (fun s18 s19 s20 wx => s18 = .int .i64 gg ∧ s20 = .int .i64 0 ∧ ∃ D a' k', s19 = .pointer (some ⟨D, 0, none⟩) ∧ RowKit.Hid (KeptAt w Bc Bt D p cp l (fun y => if y = q then ⟨#[99, 99]⟩ else t y) c a k c' a' k' wx))
              case first =>
                refine wp_region_held_drew (S := fun w' => CellSh w' Bc c a k ∧ Txts w' Bt (fun y => if y = q then ⟨#[99, 99]⟩ else t y) ∧ Plain w' Bc p cp l) (by kernel_rfl) ⟨CC1.out.below (Below.refl _ _).drew rfl, TX1.out.below (Below.refl _ _).drew rfl, PL1.out.below (Below.refl _ _).drew rfl⟩ (fun hHeld => ?_)
                refine wpAnyH_take (i := 0) (v := .agg #[.int .i64 c.room, .int .i64 c.clock, .slice a c.held.length k]) rfl (by kernel_rfl) (by kernel_rfl) (by kernel_rfl) (fun _ _ _ h => h) (Or.inl ⟨by rfl, fun w hSw => by obtain ⟨x0, x1, x2, f0, f1, f2⟩ := hSw.1.cells; go_simp⟩) hHeld ?_
                try simp only [List.getElem_toArray, List.getElem_cons_succ, List.getElem_cons_zero, Act.put, List.setIfInBounds_toArray, List.set_cons_zero, List.set_cons_succ]
                refine wpAnyH_take (i := 1) (v := .int .i64 (q : Int)) rfl (by kernel_rfl) (by kernel_rfl) (by kernel_rfl) (fun _ _ _ h => h) (Or.inl ⟨by rfl, fun w hSw => by (try dsimp only at hSw); go_simp⟩) hHeld ?_
                try simp only [List.getElem_toArray, List.getElem_cons_succ, List.getElem_cons_zero, Act.put, List.setIfInBounds_toArray, List.set_cons_zero, List.set_cons_succ]
                refine wpAnyH_take (i := 2) (v := .int .i64 (q : Int)) rfl (by kernel_rfl) (by kernel_rfl) (by kernel_rfl) (fun _ _ _ h => h) (Or.inl ⟨by rfl, fun w hSw => by (try dsimp only at hSw); go_simp⟩) hHeld ?_
                try simp only [List.getElem_toArray, List.getElem_cons_succ, List.getElem_cons_zero, Act.put, List.setIfInBounds_toArray, List.set_cons_zero, List.set_cons_succ]
                refine wpAnyH_take (i := 3) (v := .pointer (some ⟨Bt, q, none⟩)) rfl (by kernel_rfl) (by kernel_rfl) (by kernel_rfl) (fun _ _ _ h => h) (Or.inl ⟨by rfl, fun w hSw => by (try dsimp only at hSw); go_simp⟩) hHeld ?_
                try simp only [List.getElem_toArray, List.getElem_cons_succ, List.getElem_cons_zero, Act.put, List.setIfInBounds_toArray, List.set_cons_zero, List.set_cons_succ]
                refine wpAnyH_take (i := 4) (v := .string ⟨#[99, 99]⟩) rfl (by kernel_rfl) (by kernel_rfl) (by kernel_rfl) (fun _ _ _ h => h) (Or.inl ⟨by rfl, fun w hSw => by have hx0 := hSw.2.1.at_ q hq; rw [if_pos rfl] at hx0; go_simp⟩) hHeld ?_
                try simp only [List.getElem_toArray, List.getElem_cons_succ, List.getElem_cons_zero, Act.put, List.setIfInBounds_toArray, List.set_cons_zero, List.set_cons_succ]
                refine wpAnyH_ready (rs := [5, 10]) (by kernel_rfl) (by simp) ?_
                refine AllReadyH.cons rfl (fun K hK => ?_) ?_
                · go_simp
                  go_at_call 23
                  have hq5 := Lib.hid (keep_lit c a k (q : Int) ⟨#[99, 99]⟩ HKP.out _ LC.out hHeld.1.sh (by omega) (by omega))
                  (with_reducible refine hq5.out.mono ?_)
                  clear hq5
                  rintro e w5 ⟨a5, k5, rfl, s5, b5⟩
                  have BE5 := Lib.hid (BL1.out.drew.trans (b5.mono (by exact zr1)))
                  refine hK.out _ _ ?_ (fun hHeld => ?_)
                  · exact ⟨hHeld.1.below b5 rfl, hHeld.2.1.below b5 rfl, hHeld.2.2.below b5 rfl⟩
                  clear hK K
                  try simp only [List.getElem_toArray, List.getElem_cons_succ, List.getElem_cons_zero, Act.put, List.setIfInBounds_toArray, List.set_cons_zero, List.set_cons_succ]
                  refine wpAnyH_take (i := 6) (v := .tuple #[.int .i64 gg, .agg #[.int .i64 c'.room, .int .i64 c'.clock, .slice a5 c'.held.length k5], .int .i64 0]) rfl (by kernel_rfl) (by kernel_rfl) (by kernel_rfl) (fun _ _ _ h => h) (Or.inl ⟨by rfl, fun w hSw => by (try dsimp only at hSw); go_simp⟩) hHeld ?_
                  try simp only [List.getElem_toArray, List.getElem_cons_succ, List.getElem_cons_zero, Act.put, List.setIfInBounds_toArray, List.set_cons_zero, List.set_cons_succ]
                  refine wpAnyH_take (i := 7) (v := .int .i64 gg) rfl (by kernel_rfl) (by kernel_rfl) (by kernel_rfl) (fun _ _ _ h => h) (Or.inl ⟨by rfl, fun w hSw => by (try dsimp only at hSw); go_simp⟩) hHeld ?_
                  try simp only [List.getElem_toArray, List.getElem_cons_succ, List.getElem_cons_zero, Act.put, List.setIfInBounds_toArray, List.set_cons_zero, List.set_cons_succ]
                  refine wpAnyH_take (i := 8) (v := .agg #[.int .i64 c'.room, .int .i64 c'.clock, .slice a5 c'.held.length k5]) rfl (by kernel_rfl) (by kernel_rfl) (by kernel_rfl) (fun _ _ _ h => h) (Or.inl ⟨by rfl, fun w hSw => by (try dsimp only at hSw); go_simp⟩) hHeld ?_
                  try simp only [List.getElem_toArray, List.getElem_cons_succ, List.getElem_cons_zero, Act.put, List.setIfInBounds_toArray, List.set_cons_zero, List.set_cons_succ]
                  refine wpAnyH_take (i := 9) (v := .int .i64 0) rfl (by kernel_rfl) (by kernel_rfl) (by kernel_rfl) (fun _ _ _ h => h) (Or.inl ⟨by rfl, fun w hSw => by (try dsimp only at hSw); go_simp⟩) hHeld ?_
                  try simp only [List.getElem_toArray, List.getElem_cons_succ, List.getElem_cons_zero, Act.put, List.setIfInBounds_toArray, List.set_cons_zero, List.set_cons_succ]
                  refine wpAnyH_ready (rs := [10]) (by kernel_rfl) (by simp) ?_
                  refine AllReadyH.cons rfl (fun K hK => ?_) ?_
                  · have HH5 := Lib.hid hHeld
                    go_simp
                    refine hK.out _ _ ?_ (fun hHeld => ?_)
                    · exact ⟨hHeld.1.below ((Below.refl _ _).alloc (Nat.le_refl _) _) rfl, hHeld.2.1.below ((Below.refl _ _).alloc (Nat.le_refl _) _) rfl, hHeld.2.2.below ((Below.refl _ _).alloc (Nat.le_refl _) _) rfl⟩
                    clear hK K
                    try simp only [List.getElem_toArray, List.getElem_cons_succ, List.getElem_cons_zero, Act.put, List.setIfInBounds_toArray, List.set_cons_zero, List.set_cons_succ]
                    refine wpAnyH_take (i := 11) (v := .int .i64 gg) rfl (by kernel_rfl) (by kernel_rfl) (by kernel_rfl) (fun _ _ _ h => h) (Or.inl ⟨by rfl, fun w hSw => by (try dsimp only at hSw); go_simp⟩) hHeld ?_
                    try simp only [List.getElem_toArray, List.getElem_cons_succ, List.getElem_cons_zero, Act.put, List.setIfInBounds_toArray, List.set_cons_zero, List.set_cons_succ]
                    refine wpAnyH_ready (rs := [12]) (by kernel_rfl) (by simp) ?_
                    refine AllReadyH.cons rfl (fun K hK => ?_) ?_
                    · go_simp
                      refine hK.out _ _ ?_ (fun hHeld => ?_)
                      · exact ⟨HH5.out.1.below ((Below.refl _ _).alloc (Nat.le_refl _) _) rfl, HH5.out.2.1.below ((Below.refl _ _).alloc (Nat.le_refl _) _) rfl, HH5.out.2.2.below ((Below.refl _ _).alloc (Nat.le_refl _) _) rfl⟩
                      clear hK K
                      try simp only [List.getElem_toArray, List.getElem_cons_succ, List.getElem_cons_zero, Act.put, List.setIfInBounds_toArray, List.set_cons_zero, List.set_cons_succ]
                      refine wpAnyH_take (i := 13) (v := .int .i64 0) rfl (by kernel_rfl) (by kernel_rfl) (by kernel_rfl) (fun _ _ _ h => h) (Or.inl ⟨by rfl, fun w hSw => by (try dsimp only at hSw); go_simp⟩) hHeld ?_
                      try simp only [List.getElem_toArray, List.getElem_cons_succ, List.getElem_cons_zero, Act.put, List.setIfInBounds_toArray, List.set_cons_zero, List.set_cons_succ]
                      refine wpAnyH_done (by kernel_rfl) ?_ _
                      go_wp2_with fail
                      go_meet
                      exact ⟨rfl, rfl, w5.heap.size, a5, k5, rfl, Lib.hid ⟨CellSh.new s5, hHeld.1, hHeld.2.1, hHeld.2.2, BE5.out.alloc BE5.out.size _, Nat.lt_of_lt_of_le lc1 b5.size, Nat.lt_of_lt_of_le lt1 b5.size⟩⟩
                    exact AllReadyH.nil
                  exact AllReadyH.nil
                refine AllReadyH.cons rfl (fun K hK => ?_) ?_
                · go_simp
                  refine hK.out _ _ ?_ (fun hHeld => ?_)
                  · exact ⟨hHeld.1.below ((Below.refl _ _).alloc (Nat.le_refl _) _) rfl, hHeld.2.1.below ((Below.refl _ _).alloc (Nat.le_refl _) _) rfl, hHeld.2.2.below ((Below.refl _ _).alloc (Nat.le_refl _) _) rfl⟩
                  clear hK K
                  try simp only [List.getElem_toArray, List.getElem_cons_succ, List.getElem_cons_zero, Act.put, List.setIfInBounds_toArray, List.set_cons_zero, List.set_cons_succ]
                  refine wpAnyH_ready (rs := [5]) (by kernel_rfl) (by simp) ?_
                  refine AllReadyH.cons rfl (fun K hK => ?_) ?_
                  · go_simp
                    go_at_call 23
                    have hq5 := Lib.hid (keep_lit c a k (q : Int) ⟨#[99, 99]⟩ HKP.out _ LC.out hHeld.1.sh (by omega) (by omega))
                    (with_reducible refine hq5.out.mono ?_)
                    clear hq5
                    rintro e w5 ⟨a5, k5, rfl, s5, b5⟩
                    have z5 := Lib.hid (zero_cell b5)
                    have BE5 := Lib.hid ((BL1.out.alloc zr1 _).drew.trans (b5.mono (by show _ ≤ (W1.alloc (.cells #[.int .i64 0, .int .i64 0, .slice none 0 0] TS)).heap.size; rw [size_alloc']; exact Nat.le_succ_of_le zr1)))
                    refine hK.out _ _ ?_ (fun hHeld => ?_)
                    · exact ⟨hHeld.1.below b5 rfl, hHeld.2.1.below b5 rfl, hHeld.2.2.below b5 rfl⟩
                    clear hK K
                    try simp only [List.getElem_toArray, List.getElem_cons_succ, List.getElem_cons_zero, Act.put, List.setIfInBounds_toArray, List.set_cons_zero, List.set_cons_succ]
                    refine wpAnyH_take (i := 6) (v := .tuple #[.int .i64 gg, .agg #[.int .i64 c'.room, .int .i64 c'.clock, .slice a5 c'.held.length k5], .int .i64 0]) rfl (by kernel_rfl) (by kernel_rfl) (by kernel_rfl) (fun _ _ _ h => h) (Or.inl ⟨by rfl, fun w hSw => by (try dsimp only at hSw); go_simp⟩) hHeld ?_
                    try simp only [List.getElem_toArray, List.getElem_cons_succ, List.getElem_cons_zero, Act.put, List.setIfInBounds_toArray, List.set_cons_zero, List.set_cons_succ]
                    refine wpAnyH_take (i := 7) (v := .int .i64 gg) rfl (by kernel_rfl) (by kernel_rfl) (by kernel_rfl) (fun _ _ _ h => h) (Or.inl ⟨by rfl, fun w hSw => by (try dsimp only at hSw); go_simp⟩) hHeld ?_
                    try simp only [List.getElem_toArray, List.getElem_cons_succ, List.getElem_cons_zero, Act.put, List.setIfInBounds_toArray, List.set_cons_zero, List.set_cons_succ]
                    refine wpAnyH_take (i := 8) (v := .agg #[.int .i64 c'.room, .int .i64 c'.clock, .slice a5 c'.held.length k5]) rfl (by kernel_rfl) (by kernel_rfl) (by kernel_rfl) (fun _ _ _ h => h) (Or.inl ⟨by rfl, fun w hSw => by (try dsimp only at hSw); go_simp⟩) hHeld ?_
                    try simp only [List.getElem_toArray, List.getElem_cons_succ, List.getElem_cons_zero, Act.put, List.setIfInBounds_toArray, List.set_cons_zero, List.set_cons_succ]
                    refine wpAnyH_take (i := 9) (v := .int .i64 0) rfl (by kernel_rfl) (by kernel_rfl) (by kernel_rfl) (fun _ _ _ h => h) (Or.inl ⟨by rfl, fun w hSw => by (try dsimp only at hSw); go_simp⟩) hHeld ?_
                    try simp only [List.getElem_toArray, List.getElem_cons_succ, List.getElem_cons_zero, Act.put, List.setIfInBounds_toArray, List.set_cons_zero, List.set_cons_succ]
                    refine wpAnyH_take (i := 11) (v := .int .i64 gg) rfl (by kernel_rfl) (by kernel_rfl) (by kernel_rfl) (fun _ _ _ h => h) (Or.inl ⟨by rfl, fun w hSw => by (try dsimp only at hSw); go_simp⟩) hHeld ?_
                    try simp only [List.getElem_toArray, List.getElem_cons_succ, List.getElem_cons_zero, Act.put, List.setIfInBounds_toArray, List.set_cons_zero, List.set_cons_succ]
                    refine wpAnyH_ready (rs := [12]) (by kernel_rfl) (by simp) ?_
                    refine AllReadyH.cons rfl (fun K hK => ?_) ?_
                    · obtain ⟨y0, y1, y2, g0, g1, g2⟩ := z5.out.cells
                      go_simp
                      refine hK.out _ _ ?_ (fun hHeld => ?_)
                      · exact ⟨CellSh.far z5.out hHeld.1 (by omega) _ _ _, hHeld.2.1.put3 z5.out _ _ _, pput hHeld.2.2 (fun g o e => Nat.ne_of_lt (PL1.out.old g o e))⟩
                      clear hK K
                      try simp only [List.getElem_toArray, List.getElem_cons_succ, List.getElem_cons_zero, Act.put, List.setIfInBounds_toArray, List.set_cons_zero, List.set_cons_succ]
                      refine wpAnyH_take (i := 13) (v := .int .i64 0) rfl (by kernel_rfl) (by kernel_rfl) (by kernel_rfl) (fun _ _ _ h => h) (Or.inl ⟨by rfl, fun w hSw => by (try dsimp only at hSw); go_simp⟩) hHeld ?_
                      try simp only [List.getElem_toArray, List.getElem_cons_succ, List.getElem_cons_zero, Act.put, List.setIfInBounds_toArray, List.set_cons_zero, List.set_cons_succ]
                      refine wpAnyH_done (by kernel_rfl) ?_ _
                      go_wp2_with fail
                      go_meet
                      exact ⟨rfl, rfl, W1.heap.size, a5, k5, rfl, Lib.hid ⟨z5.out.set s5, hHeld.1, hHeld.2.1, hHeld.2.2, Below.put3 (B := W1.heap.size) BE5.out zr1 _ _ _, lc1, lt1⟩⟩
                    exact AllReadyH.nil
                  exact AllReadyH.nil
                exact AllReadyH.nil
              case rest =>
                obtain ⟨rfl, rfl, D, a5, k5, rfl, hka⟩ := hcut
                obtain ⟨hcx, hcc, htx, hpl, hb, hd1, hd2⟩ := hka.out
                have CX := Lib.hid hcx
                have CC2 := Lib.hid hcc
                have TX2 := Lib.hid htx
                have PL2 := Lib.hid hpl
                have BL2 := Lib.hid hb
                clear hcx hcc htx hpl hb hka CC1 TX1 PL1 BL1 zr1 lc1 lt1
                rcases HGO.out with ⟨hin, hg, hr⟩ | ⟨hin, hlt, hg, hr⟩ | ⟨hin, hlt, hg, hr⟩
                · have hz0 : decide (z < 0) = false := decide_eq_false (by have := HZ.out.2.2.2 hin; omega)
                  subst hg hr
                  clear hin HGO
                  obtain ⟨xc0, xc1, xc2, fc0, fc1, fc2⟩ := CC2.out.cells
                  obtain ⟨xx0, xx1, xx2, fx0, fx1, fx2⟩ := CX.out.cells
                  go_wp2
                  go_meet
                  exact ⟨p, cp, r, by rw [HM.out], Lib.hid ⟨c', a5, k5, _, CC2.out.set CX.out.sh, TX2.out.put3 CC2.out _ _ _, PL2.out.put3 _ _ _, HL.out, by rw [HM.out]; omega, Below.put3 BL2.out hwc _ _ _⟩⟩
                · have hz0 : decide (z < 0) = true := decide_eq_true (by have h1 := HZ.out.2.2.1; rcases Int.lt_or_le z 0 with h | h; exact h; exact absurd (h1 h) hin)
                  have hmn : ((m : Int) == (n : Int)) = false := by rw [beq_eq_false_iff_ne]; rw [HM.out] at hlt; omega
                  subst hg hr
                  clear hin hlt HGO
                  obtain ⟨xc0, xc1, xc2, fc0, fc1, fc2⟩ := CC2.out.cells
                  obtain ⟨xx0, xx1, xx2, fx0, fx1, fx2⟩ := CX.out.cells
                  go_wp2
                  go_meet
                  exact ⟨p, cp, r, by rw [HM.out], Lib.hid ⟨c', a5, k5, _, CC2.out.set CX.out.sh, TX2.out.put3 CC2.out _ _ _, PL2.out.put3 _ _ _, HL.out, by rw [HM.out]; omega, Below.put3 BL2.out hwc _ _ _⟩⟩
                · have hz0 : decide (z < 0) = true := decide_eq_true (by have h1 := HZ.out.2.2.1; rcases Int.lt_or_le z 0 with h | h; exact h; exact absurd (h1 h) hin)
                  have hmn : m = n := by rw [← HM.out]; exact hlt
                  subst hmn
                  obtain ⟨m', rfl⟩ : ∃ m', m = m' + 1 := ⟨m - 1, by omega⟩
                  obtain ⟨pb, po, hp, hpb, hpc⟩ := PL2.out.at_ _ _ hg
                  subst hp
                  have PL3 := Lib.hid (PL2.out.take m')
                  have hrl : r = l.take m' := hr
                  subst hrl
                  have HRL := Lib.hid (show (l.take m').length = m' by rw [List.length_take, HM.out]; omega)
                  rw [Nat.add_sub_cancel] at hpc
                  clear hin hlt hg hr HGO
                  have hm1 : ((m' + 1 : Nat) : Int) - 1 = (m' : Int) := by omega
                  obtain ⟨xc0, xc1, xc2, fc0, fc1, fc2⟩ := CC2.out.cells
                  obtain ⟨xx0, xx1, xx2, fx0, fx1, fx2⟩ := CX.out.cells
                  go_wp2
                  go_meet
                  exact ⟨_, cp, l.take m', by rw [HRL.out], Lib.hid ⟨c', a5, k5, _, CC2.out.set CX.out.sh, TX2.out.put3 CC2.out _ _ _, PL3.out.put3 _ _ _, HL.out, by rw [HRL.out]; omega, Below.put3 BL2.out hwc _ _ _⟩⟩
          case rest =>
            obtain ⟨p', cp', r, rfl, hnx⟩ := hcut
            obtain ⟨c2, a2, k2, t2, hcc, htx, hpl, hli, hr6, hb⟩ := hnx.out
            have CC2 := Lib.hid hcc
            have TX2 := Lib.hid htx
            have PL2 := Lib.hid hpl
            have LI2 := Lib.hid hli
            have BL2 := Lib.hid hb
            have zr2 := hb.size
            have lc2 := hcc.lt
            have LC2 := Lib.hid (show c2.held.length ≤ 1000000 by have := hli.s.len; omega)
            clear hcc htx hpl hli hb hnx CC TX PL LI BL HZ y0 zr lc ltt LC hlen hcp
            obtain ⟨R, hR⟩ : ∃ R, r.length = R := ⟨_, rfl⟩
            have HR := Lib.hid hR
            rw [hR] at hr6 ⊢
            clear hR
            go_wp2
            go_loopw [22, 23] (fun v i wr => ∃ (i' nr cr : Nat) (pr : Option Addr), i' ≤ R ∧ i = .int .i64 i' ∧ v = .slice pr nr cr ∧ RowKit.Hid (Kit.Own wr wc.heap.size TI pr nr cr (((q : Int) :: out (q : Int) (r.take i')).map inum)) ∧ RowKit.Hid (Below wc.heap.size wc wr)) (fun _ i _ => R - (intOf i).toNat)
            case atStart => exact ⟨0, 1, 1, _, by omega, rfl, rfl, Lib.hid (own_one wc (q : Int) _ (Nat.le_refl _)), Lib.hid ((Below.refl _ _).alloc (Nat.le_refl _) _)⟩
            case round =>
              obtain ⟨i, nr, cr, pr, hi, rfl, rfl, hown, hb⟩ := hrel
              have zx := hb.out.size
              have hnr : nr ≤ 7 := by
                have h1 := hown.out.len
                have h2 : (out (q : Int) (r.take i)).length ≤ (r.take i).length := List.length_filter_le _ _
                rw [List.length_map, List.length_cons] at h1
                rw [List.length_take] at h2
                omega
              by_cases hlt : i < R
              · obtain ⟨x, hx⟩ : ∃ x, r[i]? = some x := ⟨r[i]'(by rw [HR.out]; exact hlt), List.getElem?_eq_getElem _⟩
                obtain ⟨pb, po, hp, hpb, hpc⟩ := (PL2.out.below hb.out rfl).at_ i x hx
                subst hp
                by_cases hxq : x = (q : Int)
                · have HO := Lib.hid (show Kit.Own wr wc.heap.size TI pr nr cr (((q : Int) :: out (q : Int) (r.take (i + 1))).map inum) by rw [out_hit hx hxq]; exact hown.out)
                  have tt : (x != (q : Int)) = false := by simp [hxq]
                  clear hx hxq hown
                  go_wp2
                  go_roundw
                  case rel => exact ⟨i + 1, nr, cr, pr, by omega, by go_num, rfl, HO, hb⟩
                  case measure => simp [intOf]; omega
                · have hom := out_miss hx hxq
                  have tt : (x != (q : Int)) = true := by simpa using hxq
                  obtain ⟨p3, c3, w3, hr3, ho3, hg3⟩ := Kit.Own.app (ty := 28) (w := wr.alloc (.cells #[.int .i64 x] TI)) oneI (hown.out.alloc _) (some ⟨wr.heap.size, 0, none⟩) 1 1 [inum x] (Kit.new_one wr (inum x) TI) rfl (fun h => by cases h) (by intro u hu; simp at hu; subst hu; rfl) (by unfold maxLen; omega) (by omega) (by rw [size_alloc']; omega)
                  have HO := Lib.hid (show Kit.Own w3 wc.heap.size TI p3 (nr + 1) c3 (((q : Int) :: out (q : Int) (r.take (i + 1))).map inum) by rw [hom, ← List.cons_append, List.map_append]; exact ho3)
                  have HB := Lib.hid (hb.out.trans (((Below.refl wc.heap.size wr).alloc zx _).trans ((Below.refl _ _).grown hg3 (by rw [size_alloc']; omega) (fun q hq => hown.out.block q hq))))
                  clear hx hxq hom ho3 hg3 hown
                  go_wp2_with (at_builtin; refine Kit.app_eq rfl (.tmp 157) (.tmp 162) 28 rfl rfl rfl hr3 ?_)
                  go_roundw
                  case rel => exact ⟨i + 1, nr + 1, c3, p3, by omega, by go_num, rfl, HO, HB⟩
                  case measure => simp [intOf]; omega
              · have htk : r.take i = r := List.take_of_length_le (by rw [HR.out]; omega)
                have hown2 : Kit.Own wr wc.heap.size TI pr nr cr (((q : Int) :: out (q : Int) r).map inum) := by have := hown.out; rwa [htk] at this
                obtain ⟨L, hL⟩ : ∃ L, (q : Int) :: out (q : Int) r = L := ⟨_, rfl⟩
                have hL0 : L.length = nr := by rw [← hL]; have := hown2.len; rwa [List.length_map] at this
                have hnr0 : 0 < nr := by rw [← hL0, ← hL]; simp
                rw [hL] at hown2
                have hli2 : Listed n (j + 1) c2 L t2 := by rw [← hL]; exact LI2.out
                have LI3 := Lib.hid hli2
                have HO := Lib.hid hown2
                have HL0 := Lib.hid hL0
                have CC3 := Lib.hid (CC2.out.below hb.out rfl)
                have TX3 := Lib.hid (TX2.out.below hb.out rfl)
                have BL3 := Lib.hid (BL2.out.trans (hb.out.mono zr2))
                have hch : decide (n < c2.held.length) = false := decide_eq_false (by have h1 := hli2.len; have h2 := hli2.le; omega)
                have hrt := Lib.hid ((right_iff c2).2 hli2.s.1)
                clear hL hL0 hown2 hli2 htk hown LI2
                obtain ⟨xc0, xc1, xc2, fc0, fc1, fc2⟩ := CC3.out.cells
                go_wp2_with fail
                clear xc0 xc1 xc2 fc0 fc1 fc2
                have hq1 := Lib.hid (order_lit c2 a2 k2 LI3.out.order _ LC2.out CC3.out.sh.src)
                (with_reducible refine hq1.out.mono ?_)
                clear hq1
                rintro e w6 ⟨ao, ko, rfl, so, b6⟩
                have CC4 := Lib.hid (CC3.out.below b6 rfl)
                have TX4 := Lib.hid (TX3.out.below b6 rfl)
                have BL4 := Lib.hid (BL3.out.trans (b6.mono BL3.out.size))
                have HO4 := Lib.hid (HO.out.below b6 (Nat.le_refl _))
                have SO4 := Lib.hid so.src
                clear b6 so
                go_wp2_with fail
                have hq1 := Lib.hid (ints_lit ao pr ko cr L rfl HL0.out (by rw [HL0.out]; omega) _ SO4.out HO4.out.src)
                (with_reducible refine hq1.out.mono ?_)
                clear hq1
                rintro e w7 ⟨rfl, b7⟩
                have CC5 := Lib.hid (CC4.out.below b7 rfl)
                have TX5 := Lib.hid (TX4.out.below b7 rfl)
                have BL5 := Lib.hid (BL4.out.trans (b7.mono BL4.out.size))
                have HO5 := Lib.hid (HO4.out.below b7 (Nat.le_refl _))
                clear b7
                obtain ⟨xc0, xc1, xc2, fc0, fc1, fc2⟩ := CC5.out.cells
                go_wp2_with fail
                clear xc0 xc1 xc2 fc0 fc1 fc2
                have hq1 := Lib.hid (right_lit c2 a2 k2 hrt.out _ (by have := LC2.out; unfold maxLen; omega) CC5.out.sh.src)
                (with_reducible refine hq1.out.mono ?_)
                clear hq1
                rintro e w8 ⟨rfl, b8⟩
                have CC6 := Lib.hid (CC5.out.below b8 rfl)
                have TX6 := Lib.hid (TX5.out.below b8 rfl)
                have BL6 := Lib.hid (BL5.out.trans (b8.mono BL5.out.size))
                have HO6 := Lib.hid (HO5.out.below b8 (Nat.le_refl _))
                clear b8
                obtain ⟨xc0, xc1, xc2, fc0, fc1, fc2⟩ := CC6.out.cells
                go_wp2
                go_roundw
                case rel => exact ⟨j + 1, pr, L, cr, by omega, by omega, by go_num, by rw [HL0.out], Lib.hid ⟨c2, a2, k2, t2, CC6.out, TX6.out, Plain.own HO6.out hnr0 lc2, LI3.out, BL6.out⟩⟩
                case measure => simp [intOf]; omega
    · have h3 : ¬ j < len1 ∨ (j < len1 ∧ ¬ j < 60) := by
        by_cases h1 : j < len1
        · exact .inr ⟨h1, fun h => hc ⟨h1, h⟩⟩
        · exact .inl h1
      clear hc
      rcases h3 with h | ⟨h, h'⟩
      all_goals
        go_wp2
        go_ret
        exact ⟨rfl, BL.out⟩

set_option maxRecDepth 100000 in
set_option maxHeartbeats 400000 in
theorem lifted (os : Os) (started : os.Started) (H : Type) (enc : TypeId × Value → H) :
    ReturnsInHanded {} Try.checked os 4 .any (Rows.cacheListSpec.pre6 enc Try.prog Try.f4 Rows.cacheListRow.domain false) (Rows.cacheListSpec.post enc Try.prog Try.f4 false true false false) := by
  refine returnsInHanded_of_change (C := Try.checked) own started (by kernel_rfl) Try.func4
    (ChangeSpec.witness6 (enc := enc) (C := Try.checked) false ⟨#[], #[.int .i64 0, .slice none 0 0], []⟩ 8 (by kernel_rfl) (by kernel_rfl) (by kernel_rfl) (by kernel_rfl)) ?_
  intro W base args ds gs before hval0 hW hcnd _
  have hval : ∀ (j : Nat) t v, Try.f4.params[j]? = some t → args[j]? = some v → Value.okWide Try.prog W .any base t v := hval0
  have hW' := hW
  obtain ⟨p, q, hA0, hV, rfl, hfz, hnd⟩ := hW
  have hA : DataW.TrodAll enc Try.prog W 0 (fun _ => true) true Try.f4.params.toList args.toList ds p := hA0
  rw [Try.params4] at hA hval
  obtain ⟨v0, vs0, d0, ds0, p0, q0, hargs, rfl, rfl, h0, r0⟩ := trodAll_cons hA
  obtain ⟨v1, vs1, d1, ds1, p1, q1, rfl, rfl, rfl, h1, r1⟩ := trodAll_cons r0
  obtain ⟨rfl, rfl, rfl⟩ := trodAll_nil r1
  obtain rfl : args = #[v0, v1] := by cases args; simp_all
  obtain ⟨rfl, rfl⟩ := trodVars_none hV
  obtain ⟨a0, rfl, rfl, rfl, w0⟩ := open_int Try.underlying3 (hval 0 3 v0 rfl rfl) h0
  obtain ⟨a1, len1, cap1, rfl⟩ := okWide_slice Try.underlying22 (hval 1 22 v1 rfl rfl)
  have k1 := h1
  have lt1 : ∀ x ∈ p1, x.block < W.heap.size := by obtain ⟨m, hm⟩ := k1; exact DataW.trod_lt m _ _ _ hm
  obtain ⟨z1, w1⟩ : ∃ g, Kit.IsPairs .i64 W a1 len1 cap1 g := Kit.open_pairs Try.underlying22 Try.underlying45 Try.underlying3 (by kernel_rfl) (by kernel_rfl) h1
  clear hA0 hval0
  refine (walk a0 a1 len1 cap1 z1 W w0 w1).mono fun e W' ⟨he, bel⟩ => ?_
  subst he
  exact ⟨_, rfl, _, _, _, [], _, [], hW', trodAll_mk1 (shut_bool Try.underlying4 _), (trodAll_cons_mk (shut_int Try.underlying3 w0) (trodAll_cons_mk (Below.trod laidOut (by kernel_rfl) (of_decide_eq_true (by kernel_rfl)) k1 bel lt1) trodAll_mk0)), rfl, bel.frame _, fun h => by cases h⟩

theorem over : Rows.cacheListRow.holds Try.pinned (OpenSpec.ofChange Rows.cacheListSpec) :=
  OpenClaim.holds_of_wide 4 Try.f4 rfl rfl rfl rfl rfl rfl rfl ⟨rfl, rfl, rfl, rfl, rfl⟩ rfl rfl rfl rfl rfl (by kernel_rfl) Try.func4 (by kernel_rfl)
    (of_decide_eq_true (by kernel_rfl)) (by unfold Func.isWrapper; first | (rw [if_pos (by decide +kernel)]; kernel_rfl) | (rw [if_neg (by decide +kernel)]; exact ⟨rfl, rfl⟩))
    (fun os started H enc _ => lifted os started H enc)

theorem proved : Rows.CacheListSaid := over
#print axioms proved
end Go.Proofs.Ytpkhafijmbgcnaa.cacheList
