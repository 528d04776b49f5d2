/-
  The law RleLong of chapter 4 returns true: Pack has no more than five for each four bytes, and no less than five for each 255; Unpack no more than 259 for each five, and no fewer than four.
  For every input: no condition.
-/
import Derived.Test.YthdpcjahficlnaaRows
import Derived.Test.YthdpcjahficlnaaRLaws0
import Derived.WalkLawsBesides
import Derived.WalkSpells
import Derived.Lib.Hide
import Derived.WalkKit
import Derived.ProofKit
import Derived.OpenShut
import Derived.ShutString
import Derived.ChangeOld
import Derived.Below
import Derived.Test.YthdpcjahficlnaaKit
namespace Go.Proofs.Ythdpcjahficlnaa.rleLong
set_option linter.unusedVariables false
open Go.RowKit
open Rle
open Go.ChangeShapes Go.WideShapes Go.ChangeAt Go.RowKit
open Go.ChangeMaps (open_string shut_string)

theorem own : ownKnob Try.prog.godebug = none := by kernel_rfl
theorem laidOut : laidOutB Try.prog = true := by kernel_rfl

theorem code_cases (s : T) (most : Int) : codeU s most = 0 ∨ codeU s most = 3 ∨ codeU s most = 4 := by unfold codeU; split; exact .inr (.inl rfl); split; exact .inr (.inr rfl); exact .inl rfl
set_option maxRecDepth 100000 in
set_option maxHeartbeats 4000000 in
theorem walk (a0 : Option Addr) (len0 cap0 : Nat) (z0 : Nat → Int × Int) (a1 : ByteArray) (w : World) (w0 : Kit.IsPairs .i64 w a0 len0 cap0 z0) (w1 : a1.size ≤ maxLen) :
    Calls Try.prog 4 #[.slice a0 len0 cap0, .string a1] w fun e w' => e = .returned (.bool true) ∧ Below w.heap.size w w' := by
  have hs1 : a1.size ≤ maxLen := w1
  obtain ⟨M1, t, hM1, hM1s, ht, hts, hMe⟩ := Kit.cut_text a1 60 60 rfl
  have hMm : min (a1.size : Int) 60 = (M1 : Int) := by have := hMe.out; omega
  unfold maxLen at hs1
  have W0 := Lib.hid w0
  clear w0 w1
  go_enter Try.func4, Try.ntmps4
  go_wp2_with fail
  refine (awake_any _).mono ?_
  rintro e w1 ⟨rfl, b1⟩
  have z1 := b1.size
  go_wp2_with fail
  refine (Runs_any a0 len0 cap0 z0 600 (by omega) 600 rfl _ (pairs_below W0.out b1)).mono ?_
  rintro e w2 ⟨u, rfl, hu, b2⟩
  have B2 : Below w.heap.size w w2 := b1.trans (b2.mono z1)
  have z2 := B2.size
  clear b1 b2 z1
  go_wp2
  obtain ⟨V, hV⟩ : ∃ V, w2.alloc (.cells #[.string u, .string t] 9) = V := ⟨_, rfl⟩
  rw [hV]
  have hd0 : V.cell? ⟨w2.heap.size, 0, none⟩ = some (.string u) := by rw [← hV]; simp
  have hd1 : V.cell? ⟨w2.heap.size, 1, none⟩ = some (.string t) := by rw [← hV]; simp
  have hbv : Below w.heap.size w V := by rw [← hV]; exact B2.alloc z2 _
  have hszV : V.heap.size = w2.heap.size + 1 := by rw [← hV]; simp
  obtain ⟨dd, hdd⟩ : ∃ dd, w2.heap.size = dd := ⟨_, rfl⟩
  rw [hdd] at hd0 hd1 hszV z2 ⊢
  have hdj : ∀ j, j < 2 → ∃ x : ByteArray, V.cell? ⟨dd, j, none⟩ = some (.string x) ∧ x.size ≤ 600 := by
    intro j hj
    match j, hj with
    | 0, _ => exact ⟨u, hd0, hu⟩
    | 1, _ => exact ⟨t, hd1, by omega⟩
  have HDJ := Lib.hid hdj
  have HBV := Lib.hid hbv
  clear hd0 hd1 hV hdj hbv hdd B2
  go_loopw [23] (fun i wr => ∃ j : Nat, j ≤ 2 ∧ i = .int .i64 j ∧ Below V.heap.size V wr) (fun i _ => 2 - (intOf i).toNat)
  case atStart => exact ⟨0, by omega, rfl, Below.refl _ _⟩
  case round =>
    obtain ⟨j, hj, rfl, hbj⟩ := hrel
    by_cases hlt : j < 2
    · obtain ⟨x, hcx, hxs⟩ := HDJ.out j hlt
      have hcw : _ := hbj.cell (p := ⟨dd, j, none⟩) (by show dd < _; omega)
      rw [hcx] at hcw
      obtain ⟨l1, l2⟩ := Len_bounds x.data.toList
      rw [len_text] at l1 l2
      obtain ⟨n, hn⟩ : ∃ n, Len x.data.toList = n := ⟨_, rfl⟩
      rw [hn] at l1 l2
      have CL := Lib.hid (length_lit x (n : Int) (by omega) (by rw [hn]))
      obtain ⟨cd, hcd⟩ : ∃ cd, codeU x.data.toList 1073741824 = cd := ⟨_, rfl⟩
      obtain ⟨r, hr⟩ : ∃ r, bs (resU x.data.toList 1073741824) = r := ⟨_, rfl⟩
      have CU := Lib.hid (unpack_lit x 1073741824 r cd (by omega) (by omega) (by omega) hr hcd)
      obtain ⟨k1, k2, k3⟩ := urun_bounds x.data.toList
      rw [len_text] at k2 k3
      have hways : (cd = 0 ∧ 5 * r.size ≤ 259 * x.size ∧ 4 * x.size ≤ 5 * r.size) ∨ cd = 3 := by
        by_cases h4 : (urun x.data.toList).1 = 4
        · refine .inr ?_
          rw [← hcd]; unfold codeU; rw [if_pos h4]
        · have hc0 : codeU x.data.toList 1073741824 = 0 := by unfold codeU; rw [if_neg h4, if_neg (by omega)]
          refine .inl ⟨by rw [← hcd]; exact hc0, ?_⟩
          rw [← hr, bs_size]
          unfold resU
          rw [if_pos hc0]
          omega
      have zj := hbj.size
      clear hcx hn hcd hr k1 k2 k3
      have l3 : n ≤ 1000 := by omega
      have i1 : 4 * (n : Int) ≤ 5 * (x.size : Int) := by omega
      have i2 : 5 * (x.size : Int) ≤ 255 * (n : Int) := by omega
      rcases hways with ⟨rfl, h1, h2⟩ | rfl
      · have i3 : 5 * (r.size : Int) ≤ 259 * (x.size : Int) := by omega
        have i4 : 4 * (x.size : Int) ≤ 5 * (r.size : Int) := by omega
        have hrs : r.size ≤ 100000 := by omega
        go_wp2_with fail
        refine (CL.out _).mono ?_
        rintro e w3 ⟨rfl, b3⟩
        have B3 : Below V.heap.size V w3 := hbj.trans (b3.mono zj)
        have z3 := B3.size
        clear b3 hcw
        go_wp2_with fail
        refine (CU.out _).mono ?_
        rintro e w4 ⟨rfl, b4⟩
        have B4 : Below V.heap.size V w4 := B3.trans (b4.mono z3)
        clear B3 b4 z3
        go_wp2
        go_roundw
        case rel => exact ⟨j + 1, by omega, by go_num, B4⟩
        case measure => simp [intOf]; omega
      · go_wp2_with fail
        refine (CL.out _).mono ?_
        rintro e w3 ⟨rfl, b3⟩
        have B3 : Below V.heap.size V w3 := hbj.trans (b3.mono zj)
        have z3 := B3.size
        clear b3 hcw
        go_wp2_with fail
        refine (CU.out _).mono ?_
        rintro e w4 ⟨rfl, b4⟩
        have B4 : Below V.heap.size V w4 := B3.trans (b4.mono z3)
        clear B3 b4 z3
        go_wp2
        go_roundw
        case rel => exact ⟨j + 1, by omega, by go_num, B4⟩
        case measure => simp [intOf]; omega
    · go_wp2
      go_ret
      exact ⟨rfl, HBV.out.trans (hbj.mono HBV.out.size)⟩

set_option maxRecDepth 100000 in
set_option maxHeartbeats 400000 in
theorem lifted (os : Os) (started : os.Started) (H : Type) (enc : TypeId × Value → H) :
    ReturnsInHanded {} Try.checked os 4 .any (Rows.rleLongSpec.pre6 enc Try.prog Try.f4 Rows.rleLongRow.domain false) (Rows.rleLongSpec.post enc Try.prog Try.f4 false true false false) := by
  refine returnsInHanded_of_change (C := Try.checked) own started (by kernel_rfl) Try.func4
    (ChangeSpec.witness6 (enc := enc) (C := Try.checked) false ⟨#[], #[.slice none 0 0, .string ByteArray.empty], []⟩ 8 (by kernel_rfl) (by kernel_rfl) (by kernel_rfl) (by kernel_rfl)) ?_
  intro W base args ds gs before hval0 hW hcnd _
  have hval : ∀ (j : Nat) t v, Try.f4.params[j]? = some t → args[j]? = some v → Value.okWide Try.prog W .any base t v := hval0
  have hW' := hW
  obtain ⟨p, q, hA0, hV, rfl, hfz, hnd⟩ := hW
  have hA : DataW.TrodAll enc Try.prog W 0 (fun _ => true) true Try.f4.params.toList args.toList ds p := hA0
  rw [Try.params4] at hA hval
  obtain ⟨v0, vs0, d0, ds0, p0, q0, hargs, rfl, rfl, h0, r0⟩ := trodAll_cons hA
  obtain ⟨v1, vs1, d1, ds1, p1, q1, rfl, rfl, rfl, h1, r1⟩ := trodAll_cons r0
  obtain ⟨rfl, rfl, rfl⟩ := trodAll_nil r1
  obtain rfl : args = #[v0, v1] := by cases args; simp_all
  obtain ⟨rfl, rfl⟩ := trodVars_none hV
  obtain ⟨a0, len0, cap0, rfl⟩ := okWide_slice Try.underlying22 (hval 0 22 v0 rfl rfl)
  have k0 := h0
  have lt0 : ∀ x ∈ p0, x.block < W.heap.size := by obtain ⟨m, hm⟩ := k0; exact DataW.trod_lt m _ _ _ hm
  obtain ⟨z0, w0⟩ : ∃ g, Kit.IsPairs .i64 W a0 len0 cap0 g := Kit.open_pairs Try.underlying22 Try.underlying38 Try.underlying3 (by kernel_rfl) (by kernel_rfl) h0
  obtain ⟨a1, rfl, rfl, rfl, w1⟩ := open_string Try.underlying9 (hval 1 9 v1 rfl rfl) h1
  clear hA0 hval0
  refine (walk a0 len0 cap0 z0 a1 W w0 w1).mono fun e W' ⟨he, bel⟩ => ?_
  subst he
  exact ⟨_, rfl, _, _, _, [], _, [], hW', trodAll_mk1 (shut_bool Try.underlying4 _), (trodAll_cons_mk (Below.trod laidOut (by kernel_rfl) (of_decide_eq_true (by kernel_rfl)) k0 bel lt0) (trodAll_cons_mk (shut_string Try.underlying9 w1) trodAll_mk0)), rfl, bel.frame _, fun h => by cases h⟩

theorem over : Rows.rleLongRow.holds Try.pinned (OpenSpec.ofChange Rows.rleLongSpec) :=
  OpenClaim.holds_of_wide 4 Try.f4 rfl rfl rfl rfl rfl rfl rfl ⟨rfl, rfl, rfl, rfl, rfl⟩ rfl rfl rfl rfl rfl (by kernel_rfl) Try.func4 (by kernel_rfl)
    (of_decide_eq_true (by kernel_rfl)) (by unfold Func.isWrapper; first | (rw [if_pos (by decide +kernel)]; kernel_rfl) | (rw [if_neg (by decide +kernel)]; exact ⟨rfl, rfl⟩))
    (fun os started H enc _ => lifted os started H enc)

theorem proved : Rows.RleLongSaid := over
#print axioms proved
end Go.Proofs.Ythdpcjahficlnaa.rleLong
