/-
  The law CrcTail of chapter 3 returns true: a text, and behind it its sum, has the same sum, whatever it is.
  For every input: no condition.
-/
import Derived.Test.YtnkgkgemjledhaaRows
import Derived.Test.YtnkgkgemjledhaaLaws0
import Derived.WalkLawsBesides
import Derived.WalkSpells
import Derived.Lib.Hide
import Derived.WalkKit
import Derived.ProofKit
import Derived.OpenShut
import Derived.ShutString
import Derived.ChangeOld
import Derived.Below
namespace Go.Proofs.Ytnkgkgemjledhaa.crcTail
set_option linter.unusedVariables false
open Go.RowKit
open Crc
open Go.ChangeShapes Go.WideShapes Go.ChangeAt Go.RowKit
open Go.ChangeMaps (open_string shut_string)

theorem own : ownKnob Try.prog.godebug = none := by kernel_rfl
theorem laidOut : laidOutB Try.prog = true := by kernel_rfl

set_option maxRecDepth 100000 in
set_option maxHeartbeats 1000000 in
theorem walk (a0 : ByteArray) (a1 : ByteArray) (w : World) (w0 : a0.size ≤ maxLen) (w1 : a1.size ≤ maxLen) :
    Calls Try.prog 8 #[.string a0, .string a1] w fun e w' => e = .returned (.bool true) ∧ Below w.heap.size w w' := by
  unfold maxLen at w0 w1
  obtain ⟨t, ht, hT⟩ : ∃ t : ByteArray, a0.extract 0 60 = t ∧ t.size ≤ 60 := ⟨_, rfl, by rw [ByteArray.size_extract]; omega⟩
  obtain ⟨u, hu, hU⟩ : ∃ u : ByteArray, a1.extract 0 60 = u ∧ u.size ≤ 60 := ⟨_, rfl, by rw [ByteArray.size_extract]; omega⟩
  have hv := back4
  have hv' := back4'
  obtain ⟨c, hc⟩ : ∃ c, (a0.size ≤ 60 → sum a0.data.toList = c) ∧ (¬ a0.size ≤ 60 → sum t.data.toList = c) := by
    by_cases h : a0.size ≤ 60
    · exact ⟨_, fun _ => rfl, fun h' => absurd h h'⟩
    · exact ⟨_, fun h' => absurd h' h, fun _ => rfl⟩
  obtain ⟨d, hd⟩ : ∃ d, (a1.size ≤ 60 → sum a1.data.toList = d) ∧ (¬ a1.size ≤ 60 → sum u.data.toList = d) := by
    by_cases h : a1.size ≤ 60
    · exact ⟨_, fun _ => rfl, fun h' => absurd h h'⟩
    · exact ⟨_, fun h' => absurd h' h, fun _ => rfl⟩
  have c3 := byt24 c
  have c2 := byt16 c
  have c1 := byt8 c
  have c0 := byt0 c
  have d3 := byt24 d
  have d2 := byt16 d
  have d1 := byt8 d
  have d0 := byt0 d
  by_cases hs : a0.size ≤ 60
  all_goals
    by_cases hm : a1.size ≤ 60
    all_goals
      first
        | (have hC := hc.1 hs)
        | (have hC := hc.2 hs)
      first
        | (have hD := hd.1 hm)
        | (have hD := hd.2 hm)
      clear hc hd
      go_enter Try.func8, Try.ntmps8
      go_wp2_with fail
      refine (awake_any _).mono ?_
      rintro e w1 ⟨rfl, b1⟩
      go_wp2_with fail
      refine (sum_any _ (le_max (by assumption) (by omega)) _).mono ?_
      rintro e w2 ⟨rfl, b2⟩
      go_wp2_with fail
      refine (sum_any _ (le_max (by assumption) (by omega)) _).mono ?_
      rintro e w3 ⟨rfl, b3⟩
      go_wp2_with fail
      refine (tail_any _ (by omega) _ _ _ _ _ hC.symm rfl rfl rfl rfl _).mono ?_
      rintro e w4 ⟨rfl, b4⟩
      go_wp2_with fail
      refine (tail_any _ (by omega) _ _ _ _ _ hD.symm rfl rfl rfl rfl _).mono ?_
      rintro e w5 ⟨rfl, b5⟩
      go_wp2
      go_ret
      have s1 := b1.size
      have s2 := b2.size
      have s3 := b3.size
      have s4 := b4.size
      simp at s4
      exact ⟨rfl, b1.trans ((b2.mono s1).trans ((b3.mono (by omega)).trans ((((Below.refl _ _).alloc (by omega) _).alloc (by simp; omega) _).trans ((b4.mono (by simp; omega)).trans (b5.mono (by omega))))))⟩

set_option maxRecDepth 100000 in
set_option maxHeartbeats 400000 in
theorem lifted (os : Os) (started : os.Started) (H : Type) (enc : TypeId × Value → H) :
    ReturnsInHanded {} Try.checked os 8 .any (Rows.crcTailSpec.pre6 enc Try.prog Try.f8 Rows.crcTailRow.domain false) (Rows.crcTailSpec.post enc Try.prog Try.f8 false true false false) := by
  refine returnsInHanded_of_change (C := Try.checked) own started (by kernel_rfl) Try.func8
    (ChangeSpec.witness6 (enc := enc) (C := Try.checked) false ⟨#[], #[.string ByteArray.empty, .string ByteArray.empty], []⟩ 8 (by kernel_rfl) (by kernel_rfl) (by kernel_rfl) (by kernel_rfl)) ?_
  intro W base args ds gs before hval0 hW hcnd _
  have hval : ∀ (j : Nat) t v, Try.f8.params[j]? = some t → args[j]? = some v → Value.okWide Try.prog W .any base t v := hval0
  have hW' := hW
  obtain ⟨p, q, hA0, hV, rfl, hfz, hnd⟩ := hW
  have hA : DataW.TrodAll enc Try.prog W 0 (fun _ => true) true Try.f8.params.toList args.toList ds p := hA0
  rw [Try.params8] at hA hval
  obtain ⟨v0, vs0, d0, ds0, p0, q0, hargs, rfl, rfl, h0, r0⟩ := trodAll_cons hA
  obtain ⟨v1, vs1, d1, ds1, p1, q1, rfl, rfl, rfl, h1, r1⟩ := trodAll_cons r0
  obtain ⟨rfl, rfl, rfl⟩ := trodAll_nil r1
  obtain rfl : args = #[v0, v1] := by cases args; simp_all
  obtain ⟨rfl, rfl⟩ := trodVars_none hV
  obtain ⟨a0, rfl, rfl, rfl, w0⟩ := open_string Try.underlying9 (hval 0 9 v0 rfl rfl) h0
  obtain ⟨a1, rfl, rfl, rfl, w1⟩ := open_string Try.underlying9 (hval 1 9 v1 rfl rfl) h1
  clear hA0 hval0
  refine (walk a0 a1 W w0 w1).mono fun e W' ⟨he, bel⟩ => ?_
  subst he
  exact ⟨_, rfl, _, _, _, [], _, [], hW', trodAll_mk1 (shut_bool Try.underlying4 _), (trodAll_cons_mk (shut_string Try.underlying9 w0) (trodAll_cons_mk (shut_string Try.underlying9 w1) trodAll_mk0)), rfl, bel.frame _, fun h => by cases h⟩

theorem over : Rows.crcTailRow.holds Try.pinned (OpenSpec.ofChange Rows.crcTailSpec) :=
  OpenClaim.holds_of_wide 8 Try.f8 rfl rfl rfl rfl rfl rfl rfl ⟨rfl, rfl, rfl, rfl, rfl⟩ rfl rfl rfl rfl rfl (by kernel_rfl) Try.func8 (by kernel_rfl)
    (of_decide_eq_true (by kernel_rfl)) (by unfold Func.isWrapper; first | (rw [if_pos (by decide +kernel)]; kernel_rfl) | (rw [if_neg (by decide +kernel)]; exact ⟨rfl, rfl⟩))
    (fun os started H enc _ => lifted os started H enc)

theorem proved : Rows.CrcTailSaid := over
#print axioms proved
end Go.Proofs.Ytnkgkgemjledhaa.crcTail
