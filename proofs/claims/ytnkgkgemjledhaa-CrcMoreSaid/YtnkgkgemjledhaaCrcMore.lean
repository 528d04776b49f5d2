/-
  The law CrcMore of chapter 3 returns true: more goes on where Sum ended; unlike numbers stay unlike behind the same bytes; the last four bytes make any sum but one way alone.
  For every input: no condition.
-/
import Derived.Test.YtnkgkgemjledhaaRows
import Derived.Test.YtnkgkgemjledhaaLaws0
import Derived.WalkLawsBesides
import Derived.WalkSpells
import Derived.Lib.Hide
import Derived.WalkKit
import Derived.ProofKit
import Derived.OpenShut
import Derived.ShutString
import Derived.ChangeOld
import Derived.Below
import Derived.Test.YtnkgkgemjledhaaKit
namespace Go.Proofs.Ytnkgkgemjledhaa.crcMore
set_option linter.unusedVariables false
open Go.RowKit
open Crc
open Go.ChangeShapes Go.WideShapes Go.ChangeAt Go.RowKit
open Go.ChangeMaps (open_string shut_string)

theorem own : ownKnob Try.prog.godebug = none := by kernel_rfl
theorem laidOut : laidOutB Try.prog = true := by kernel_rfl

set_option maxRecDepth 100000 in
set_option maxHeartbeats 1000000 in
theorem walk (a0 : ByteArray) (a1 : ByteArray) (a2 : Int) (a3 : Int) (a4_0 a4_1 a4_2 a4_3 : Int) (a5_0 a5_1 a5_2 a5_3 : Int) (w : World) (w0 : a0.size ≤ maxLen) (w1 : a1.size ≤ maxLen) (w2 : (Lit.int .u32 a2).wf = true) (w3 : (Lit.int .u32 a3).wf = true) (w4_0 : (Lit.int .u8 a4_0).wf = true) (w4_1 : (Lit.int .u8 a4_1).wf = true) (w4_2 : (Lit.int .u8 a4_2).wf = true) (w4_3 : (Lit.int .u8 a4_3).wf = true) (w5_0 : (Lit.int .u8 a5_0).wf = true) (w5_1 : (Lit.int .u8 a5_1).wf = true) (w5_2 : (Lit.int .u8 a5_2).wf = true) (w5_3 : (Lit.int .u8 a5_3).wf = true) :
    Calls Try.prog 4 #[.string a0, .string a1, .int .u32 a2, .int .u32 a3, .agg #[.int .u8 a4_0, .int .u8 a4_1, .int .u8 a4_2, .int .u8 a4_3], .agg #[.int .u8 a5_0, .int .u8 a5_1, .int .u8 a5_2, .int .u8 a5_3]] w fun e w' => e = .returned (.bool true) ∧ Below w.heap.size w w' := by
  unfold maxLen at w0 w1
  obtain ⟨l1, l2⟩ := bounds_u32 w2
  obtain ⟨l3, l4⟩ := bounds_u32 w3
  obtain ⟨c, rfl⟩ := U_of a2 (by omega) (by omega)
  obtain ⟨d, rfl⟩ := U_of a3 (by omega) (by omega)
  obtain ⟨x0, rfl⟩ := u8_of w4_0
  obtain ⟨x1, rfl⟩ := u8_of w4_1
  obtain ⟨x2, rfl⟩ := u8_of w4_2
  obtain ⟨x3, rfl⟩ := u8_of w4_3
  obtain ⟨y0, rfl⟩ := u8_of w5_0
  obtain ⟨y1, rfl⟩ := u8_of w5_1
  obtain ⟨y2, rfl⟩ := u8_of w5_2
  obtain ⟨y3, rfl⟩ := u8_of w5_3
  clear w2 w3 w4_0 w4_1 w4_2 w4_3 w5_0 w5_1 w5_2 w5_3
  obtain ⟨t, ht, hT⟩ : ∃ t : ByteArray, a0.extract 0 60 = t ∧ t.size ≤ 60 := ⟨_, rfl, by rw [ByteArray.size_extract]; omega⟩
  obtain ⟨u, hu, hU⟩ : ∃ u : ByteArray, a1.extract 0 60 = u ∧ u.size ≤ 60 := ⟨_, rfl, by rw [ByteArray.size_extract]; omega⟩
  have fne : (¬ (x0 = y0 ∧ x1 = y1 ∧ x2 = y2 ∧ x3 = y3)) → _ := fun h => four_ne h
  have mne : (¬ c = d) → _ := fun h => more_ne h
  have une : (¬ c = d) → _ := fun h => U_ne h
  have FN := Lib.hid fne
  have MN := Lib.hid mne
  have UN := Lib.hid une
  clear fne mne une
  by_cases hs : a0.size ≤ 60
  all_goals
    by_cases hm : a1.size ≤ 60
    all_goals
      go_enter Try.func4, Try.ntmps4
      go_wp2_with fail
      refine (awake_any _).mono ?_
      rintro e w1 ⟨rfl, b1⟩
      obtain ⟨hx, hy⟩ := held_two w x0 x1 x2 x3 y0 y1 y2 y3
      have hx1 := hx.below b1 (by simp; omega)
      have hy1 := hy.below b1 (by simp)
      have hx1' := hx1.text
      clear hx hy
      have z1 := b1.size
      simp at z1
      have B1 : Below w.heap.size w w1 := ((((Below.refl _ _).alloc (by omega) _).alloc (by simp) _).trans (b1.mono (by simp; omega)))
      have hl1 : w.heap.size + 1 < w1.heap.size := by omega
      have HX1 := Lib.hid hx1
      have HY1 := Lib.hid hy1
      clear hx1 hy1
      go_wp2_with fail
      refine (four_any _ (by omega) _ _ _ _ _ rfl _).mono ?_
      rintro e w2 ⟨rfl, b2⟩
      have hy2 := HY1.out.below b2 (by omega)
      have hx2 := HX1.out.below b2 (by omega)
      have hy2' := hy2.text
      have z2 := b2.size
      have B2 : Below w.heap.size w w2 := B1.trans (b2.mono (by omega))
      have HX2 := Lib.hid hx2
      have HY2 := Lib.hid hy2
      clear hx2 hy2 hx1'
      go_wp2_with fail
      refine (four_any _ (by omega) _ _ _ _ _ rfl _).mono ?_
      rintro e w3 ⟨rfl, b3⟩
      have z3 := b3.size
      have B3 : Below w.heap.size w w3 := B2.trans (b3.mono (by omega))
      have HX3 := Lib.hid (HX2.out.below b3 (by omega))
      have HY3 := Lib.hid (HY2.out.below b3 (by omega))
      clear hy2'
      go_wp2_with fail
      refine (cat_any _ _ (by omega) (by omega) _ rfl _).mono ?_
      rintro e w4 ⟨rfl, b4⟩
      have z4 := b4.size
      have B4 : Below w.heap.size w w4 := B3.trans (b4.mono (by omega))
      have HX4 := Lib.hid (HX3.out.below b4 (by omega))
      have HY4 := Lib.hid (HY3.out.below b4 (by omega))
      go_wp2_with fail
      refine (sum_any _ (le_max (by assumption) (by omega)) _).mono ?_
      rintro e w5 ⟨rfl, b5⟩
      have z5 := b5.size
      have B5 : Below w.heap.size w w5 := B4.trans (b5.mono (by omega))
      have HX5 := Lib.hid (HX4.out.below b5 (by omega))
      have HY5 := Lib.hid (HY4.out.below b5 (by omega))
      go_wp2_with fail
      refine (more_any _ _ (le_max (by assumption) (by omega)) _).mono ?_
      rintro e w6 ⟨rfl, b6⟩
      have z6 := b6.size
      have B6 : Below w.heap.size w w6 := B5.trans (b6.mono (by omega))
      have HX6 := Lib.hid (HX5.out.below b6 (by omega))
      have HY6 := Lib.hid (HY5.out.below b6 (by omega))
      go_wp2_with fail
      refine (more_any _ _ (le_max (by assumption) (by omega)) _).mono ?_
      rintro e w7 ⟨rfl, b7⟩
      have z7 := b7.size
      have B7 : Below w.heap.size w w7 := B6.trans (b7.mono (by omega))
      have HX7 := Lib.hid (HX6.out.below b7 (by omega))
      have HY7 := Lib.hid (HY6.out.below b7 (by omega))
      go_wp2_with fail
      refine (more_any _ _ (le_max (by assumption) (by omega)) _).mono ?_
      rintro e w8 ⟨rfl, b8⟩
      have z8 := b8.size
      have B8 : Below w.heap.size w w8 := B7.trans (b8.mono (by omega))
      have hx8 := HX7.out.below b8 (by omega)
      have hy8 := HY7.out.below b8 (by omega)
      clear B1 B2 B3 B4 B5 B6 B7 b1 b2 b3 b4 b5 b6 b7 b8 HX1 HX2 HX3 HX4 HX5 HX6 HX7 HY1 HY2 HY3 HY4 HY5 HY6 HY7 z1 z2 z3 z4 z5 z6 z7 z8
      obtain ⟨e0, e1, e2, e3⟩ := hx8.cells
      obtain ⟨f0, f1, f2, f3⟩ := hy8.cells
      clear hx8 hy8
      by_cases hcd : c = d
      all_goals
        by_cases hxy : x0 = y0 ∧ x1 = y1 ∧ x2 = y2 ∧ x3 = y3
        all_goals
          first
            | subst hcd
            | (have cd1 := MN.out hcd
               have cd2 := UN.out hcd
               clear hcd)
          first
            | (obtain ⟨rfl, rfl, rfl, rfl⟩ := hxy
               have hq := eq_yes x0 x1 x2 x3)
            | (have hq := @eq_no _ _ _ _ _ _ _ _ hxy
               have hf := FN.out hxy
               clear hxy)
          go_wp2
          go_ret
          exact ⟨rfl, B8⟩

set_option maxRecDepth 100000 in
set_option maxHeartbeats 400000 in
theorem lifted (os : Os) (started : os.Started) (H : Type) (enc : TypeId × Value → H) :
    ReturnsInHanded {} Try.checked os 4 .any (Rows.crcMoreSpec.pre6 enc Try.prog Try.f4 Rows.crcMoreRow.domain false) (Rows.crcMoreSpec.post enc Try.prog Try.f4 false true false false) := by
  refine returnsInHanded_of_change (C := Try.checked) own started (by kernel_rfl) Try.func4
    (ChangeSpec.witness6 (enc := enc) (C := Try.checked) false ⟨#[], #[.string ByteArray.empty, .string ByteArray.empty, .int .u32 0, .int .u32 0, .agg #[.int .u8 0, .int .u8 0, .int .u8 0, .int .u8 0], .agg #[.int .u8 0, .int .u8 0, .int .u8 0, .int .u8 0]], []⟩ 8 (by kernel_rfl) (by kernel_rfl) (by kernel_rfl) (by kernel_rfl)) ?_
  intro W base args ds gs before hval0 hW hcnd _
  have hval : ∀ (j : Nat) t v, Try.f4.params[j]? = some t → args[j]? = some v → Value.okWide Try.prog W .any base t v := hval0
  have hW' := hW
  obtain ⟨p, q, hA0, hV, rfl, hfz, hnd⟩ := hW
  have hA : DataW.TrodAll enc Try.prog W 0 (fun _ => true) true Try.f4.params.toList args.toList ds p := hA0
  rw [Try.params4] at hA hval
  obtain ⟨v0, vs0, d0, ds0, p0, q0, hargs, rfl, rfl, h0, r0⟩ := trodAll_cons hA
  obtain ⟨v1, vs1, d1, ds1, p1, q1, rfl, rfl, rfl, h1, r1⟩ := trodAll_cons r0
  obtain ⟨v2, vs2, d2, ds2, p2, q2, rfl, rfl, rfl, h2, r2⟩ := trodAll_cons r1
  obtain ⟨v3, vs3, d3, ds3, p3, q3, rfl, rfl, rfl, h3, r3⟩ := trodAll_cons r2
  obtain ⟨v4, vs4, d4, ds4, p4, q4, rfl, rfl, rfl, h4, r4⟩ := trodAll_cons r3
  obtain ⟨v5, vs5, d5, ds5, p5, q5, rfl, rfl, rfl, h5, r5⟩ := trodAll_cons r4
  obtain ⟨rfl, rfl, rfl⟩ := trodAll_nil r5
  obtain rfl : args = #[v0, v1, v2, v3, v4, v5] := by cases args; simp_all
  obtain ⟨rfl, rfl⟩ := trodVars_none hV
  obtain ⟨a0, rfl, rfl, rfl, w0⟩ := open_string Try.underlying9 (hval 0 9 v0 rfl rfl) h0
  obtain ⟨a1, rfl, rfl, rfl, w1⟩ := open_string Try.underlying9 (hval 1 9 v1 rfl rfl) h1
  obtain ⟨a2, rfl, rfl, rfl, w2⟩ := open_int Try.underlying22 (hval 2 22 v2 rfl rfl) h2
  obtain ⟨a3, rfl, rfl, rfl, w3⟩ := open_int Try.underlying22 (hval 3 22 v3 rfl rfl) h3
  have k4 := h4
  have lt4 : ∀ x ∈ p4, x.block < W.heap.size := by obtain ⟨m, hm⟩ := k4; exact DataW.trod_lt m _ _ _ hm
  obtain ⟨a4_0, a4_1, a4_2, a4_3, w4_0, w4_1, w4_2, w4_3, rfl⟩ := Kit.open_arr4 Try.underlying31 Try.underlying5 (by kernel_rfl) (by kernel_rfl) (hval 4 31 v4 rfl rfl) h4
  have k5 := h5
  have lt5 : ∀ x ∈ p5, x.block < W.heap.size := by obtain ⟨m, hm⟩ := k5; exact DataW.trod_lt m _ _ _ hm
  obtain ⟨a5_0, a5_1, a5_2, a5_3, w5_0, w5_1, w5_2, w5_3, rfl⟩ := Kit.open_arr4 Try.underlying31 Try.underlying5 (by kernel_rfl) (by kernel_rfl) (hval 5 31 v5 rfl rfl) h5
  clear hA0 hval0
  refine (walk a0 a1 a2 a3 a4_0 a4_1 a4_2 a4_3 a5_0 a5_1 a5_2 a5_3 W w0 w1 w2 w3 w4_0 w4_1 w4_2 w4_3 w5_0 w5_1 w5_2 w5_3).mono fun e W' ⟨he, bel⟩ => ?_
  subst he
  exact ⟨_, rfl, _, _, _, [], _, [], hW', trodAll_mk1 (shut_bool Try.underlying4 _), (trodAll_cons_mk (shut_string Try.underlying9 w0) (trodAll_cons_mk (shut_string Try.underlying9 w1) (trodAll_cons_mk (shut_int Try.underlying22 w2) (trodAll_cons_mk (shut_int Try.underlying22 w3) (trodAll_cons_mk (Below.trod laidOut (by kernel_rfl) (of_decide_eq_true (by kernel_rfl)) k4 bel lt4) (trodAll_cons_mk (Below.trod laidOut (by kernel_rfl) (of_decide_eq_true (by kernel_rfl)) k5 bel lt5) trodAll_mk0)))))), rfl, bel.frame _, fun h => by cases h⟩

theorem over : Rows.crcMoreRow.holds Try.pinned (OpenSpec.ofChange Rows.crcMoreSpec) :=
  OpenClaim.holds_of_wide 4 Try.f4 rfl rfl rfl rfl rfl rfl rfl ⟨rfl, rfl, rfl, rfl, rfl⟩ rfl rfl rfl rfl rfl (by kernel_rfl) Try.func4 (by kernel_rfl)
    (of_decide_eq_true (by kernel_rfl)) (by unfold Func.isWrapper; first | (rw [if_pos (by decide +kernel)]; kernel_rfl) | (rw [if_neg (by decide +kernel)]; exact ⟨rfl, rfl⟩))
    (fun os started H enc _ => lifted os started H enc)

theorem proved : Rows.CrcMoreSaid := over
#print axioms proved
end Go.Proofs.Ytnkgkgemjledhaa.crcMore
