/-
  The law RleBack of chapter 4 returns true: Unpack undoes Pack, just if it may be as long; unlike texts are packed unlike.
  For every input: no condition.
-/
import Derived.Test.YthdpcjahficlnaaRows
import Derived.Test.YthdpcjahficlnaaRLaws0
import Derived.WalkLawsBesides
import Derived.WalkSpells
import Derived.Lib.Hide
import Derived.WalkKit
import Derived.ProofKit
import Derived.OpenShut
import Derived.ShutString
import Derived.ChangeOld
import Derived.Below
import Derived.Test.YthdpcjahficlnaaKit
namespace Go.Proofs.Ythdpcjahficlnaa.rleBack
set_option linter.unusedVariables false
open Go.RowKit
open Rle
open Go.ChangeShapes Go.WideShapes Go.ChangeAt Go.RowKit
open Go.ChangeMaps (open_string shut_string)

theorem own : ownKnob Try.prog.godebug = none := by kernel_rfl
theorem laidOut : laidOutB Try.prog = true := by kernel_rfl

theorem text_eq (s t : ByteArray) : ((bs (pack s.data.toList)).toList == (bs (pack t.data.toList)).toList) = (t.toList == s.toList) := by
  rw [Lib.toList_data, Lib.toList_data, Lib.toList_data, Lib.toList_data, bs_list, bs_list, Bool.eq_iff_iff, beq_iff_eq, beq_iff_eq]
  constructor
  · intro h; exact (pack_inj _ _ h).symm
  · intro h; rw [h]
set_option maxRecDepth 100000 in
set_option maxHeartbeats 4000000 in
theorem walk (a0 : Option Addr) (len0 cap0 : Nat) (z0 : Nat → Int × Int) (a1 : ByteArray) (a2 : Int) (w : World) (w0 : Kit.IsPairs .i64 w a0 len0 cap0 z0) (w1 : a1.size ≤ maxLen) (w2 : (Lit.int .i64 a2).wf = true) :
    Calls Try.prog 3 #[.slice a0 len0 cap0, .string a1, .int .i64 a2] w fun e w' => e = .returned (.bool true) ∧ Below w.heap.size w w' := by
  have hs1 : a1.size ≤ maxLen := w1
  obtain ⟨M1, t, hM1, hM1s, ht, hts, hMe⟩ := Kit.cut_text a1 60 60 rfl
  have hMm : min (a1.size : Int) 60 = (M1 : Int) := by have := hMe.out; omega
  unfold maxLen at hs1
  obtain ⟨l2, u2⟩ := bounds_i64 w2
  obtain ⟨mo, hmo, cp⟩ := pick_nat a2 5 l2 u2 (by omega) (by omega) 5 rfl
  have CP := Lib.hid cp
  have W0 := Lib.hid w0
  clear w0 w1 cp w2 l2 u2
  go_enter Try.func3, Try.ntmps3
  go_wp2_with fail
  refine (awake_any _).mono ?_
  rintro e w1 ⟨rfl, b1⟩
  have z1 := b1.size
  go_wp2_with fail
  refine (Runs_any a0 len0 cap0 z0 600 (by omega) 600 rfl _ (pairs_below W0.out b1)).mono ?_
  rintro e w2 ⟨u, rfl, hu, b2⟩
  have B2 : Below w.heap.size w w2 := b1.trans (b2.mono z1)
  have z2 := B2.size
  clear b1 b2 z1
  go_wp2_with fail
  refine (Runs_any a0 len0 cap0 z0 300 (by omega) 300 rfl _ (pairs_below W0.out B2)).mono ?_
  rintro e w3 ⟨v, rfl, hv, b3⟩
  have B3 : Below w.heap.size w w3 := B2.trans (b3.mono z2)
  have z3 := B3.size
  clear B2 b3 z2
  go_wp2
  obtain ⟨V, hV⟩ : ∃ V, w3.alloc (.cells #[.string u, .string t, .string (v ++ t)] 9) = V := ⟨_, rfl⟩
  rw [hV]
  have hd0 : V.cell? ⟨w3.heap.size, 0, none⟩ = some (.string u) := by rw [← hV]; simp
  have hd1 : V.cell? ⟨w3.heap.size, 1, none⟩ = some (.string t) := by rw [← hV]; simp
  have hd2 : V.cell? ⟨w3.heap.size, 2, none⟩ = some (.string (v ++ t)) := by rw [← hV]; simp
  have hvt : (v ++ t).size ≤ 600 := by rw [ByteArray.size_append]; omega
  have hbv : Below w.heap.size w V := by rw [← hV]; exact B3.alloc z3 _
  have hszV : V.heap.size = w3.heap.size + 1 := by rw [← hV]; simp
  obtain ⟨dd, hdd⟩ : ∃ dd, w3.heap.size = dd := ⟨_, rfl⟩
  rw [hdd] at hd0 hd1 hd2 hszV z3 ⊢
  have hdj : ∀ j, j < 3 → ∃ x : ByteArray, V.cell? ⟨dd, j, none⟩ = some (.string x) ∧ x.size ≤ 600 := by
    intro j hj
    match j, hj with
    | 0, _ => exact ⟨u, hd0, hu⟩
    | 1, _ => exact ⟨t, hd1, by omega⟩
    | 2, _ => exact ⟨v ++ t, hd2, hvt⟩
  have HDJ := Lib.hid hdj
  have HBV := Lib.hid hbv
  have HTS := Lib.hid hts
  clear hd0 hd1 hd2 hV hdj hbv hdd B3 hvt
  go_loopw [31] (fun i wr => ∃ j : Nat, j ≤ 3 ∧ i = .int .i64 j ∧ Below V.heap.size V wr) (fun i _ => 3 - (intOf i).toNat)
  case atStart => exact ⟨0, by omega, rfl, Below.refl _ _⟩
  case round =>
    obtain ⟨j, hj, rfl, hbj⟩ := hrel
    by_cases hlt : j < 3
    · obtain ⟨x, hcx, hxs⟩ := HDJ.out j hlt
      have hcw : _ := hbj.cell (p := ⟨dd, j, none⟩) (by show dd < _; omega)
      rw [hcx] at hcw
      have hte := text_eq t x
      have hpl : (bs (pack x.data.toList)).size = Len x.data.toList := bs_size _
      obtain ⟨l1, _⟩ := Len_bounds x.data.toList
      rw [len_text] at l1
      obtain ⟨n, hn⟩ : ∃ n, Len x.data.toList = n := ⟨_, rfl⟩
      rw [hn] at hpl l1
      obtain ⟨p, hp⟩ : ∃ p, bs (pack x.data.toList) = p := ⟨_, rfl⟩
      obtain ⟨p2, hp2⟩ : ∃ p2, bs (pack t.data.toList) = p2 := ⟨_, rfl⟩
      rw [hp, hp2] at hte
      rw [hp] at hpl
      have hpx : p.data.toList = pack x.data.toList := by rw [← hp, bs_list]
      have CPX := Lib.hid (pack_lit x p (by omega) hp)
      have CPT := Lib.hid (pack_lit t p2 (by have := HTS.out; omega) hp2)
      have CL := Lib.hid (length_lit x (n : Int) (by omega) (by rw [hn]))
      have CU1 := Lib.hid (unpack_lit p ((x.size : Int) + (mo : Int)) x 0 (by omega) (by omega) (by omega) (by rw [hpx, res_pack _ _ (by rw [len_text]; omega), bs_of]) (by rw [hpx, code_pack _ _ (by rw [len_text]; omega)]))
      have CU2 := Lib.hid (unpack_lit p ((x.size : Int) - 1) ⟨#[]⟩ 4 (by omega) (by omega) (by omega) (by
        have h4 := code_pack_long x.data.toList ((x.size : Int) - 1) (by rw [len_text]; omega)
        unfold resU
        rw [hpx, h4]; unfold bs; rfl) (by rw [hpx, code_pack_long _ _ (by rw [len_text]; omega)]))
      obtain ⟨bb, hbb⟩ : ∃ bb, (x.toList == t.toList) = bb := ⟨_, rfl⟩
      have hte2 : (p2.toList == p.toList) = bb := by rw [hte, ← hbb]
      have zj := hbj.size
      have HPL := Lib.hid hpl
      clear hcx hn hp hp2 hpx hte hpl
      go_wp2_with fail
      refine (CPX.out _).mono ?_
      rintro e w4 ⟨rfl, b4⟩
      have B4 : Below V.heap.size V w4 := hbj.trans (b4.mono zj)
      have z4 := B4.size
      clear b4 hcw
      go_wp2_with fail
      refine (CP.out _).mono ?_
      rintro e w5 ⟨rfl, rfl⟩
      go_wp2_with fail
      refine (CU1.out _).mono ?_
      rintro e w5 ⟨rfl, b5⟩
      have B5 : Below V.heap.size V w5 := B4.trans (b5.mono z4)
      have z5 := B5.size
      clear B4 b5 z4
      go_wp2_with fail
      refine (CU2.out _).mono ?_
      rintro e w6 ⟨rfl, b6⟩
      have B6 : Below V.heap.size V w6 := B5.trans (b6.mono z5)
      have z6 := B6.size
      clear B5 b6 z5
      go_wp2_with fail
      refine (CPT.out _).mono ?_
      rintro e w7 ⟨rfl, b7⟩
      have B7 : Below V.heap.size V w7 := B6.trans (b7.mono z6)
      have z7 := B7.size
      clear B6 b7 z6
      go_wp2_with fail
      refine (CL.out _).mono ?_
      rintro e w8 ⟨rfl, b8⟩
      have B8 : Below V.heap.size V w8 := B7.trans (b8.mono z7)
      have hpl := HPL.out
      clear B7 b8 z7
      go_wp2
      go_roundw
      case rel => exact ⟨j + 1, by omega, by go_num, B8⟩
      case measure => simp [intOf]; omega
    · go_wp2
      go_ret
      exact ⟨rfl, HBV.out.trans (hbj.mono HBV.out.size)⟩

set_option maxRecDepth 100000 in
set_option maxHeartbeats 400000 in
theorem lifted (os : Os) (started : os.Started) (H : Type) (enc : TypeId × Value → H) :
    ReturnsInHanded {} Try.checked os 3 .any (Rows.rleBackSpec.pre6 enc Try.prog Try.f3 Rows.rleBackRow.domain false) (Rows.rleBackSpec.post enc Try.prog Try.f3 false true false false) := by
  refine returnsInHanded_of_change (C := Try.checked) own started (by kernel_rfl) Try.func3
    (ChangeSpec.witness6 (enc := enc) (C := Try.checked) false ⟨#[], #[.slice none 0 0, .string ByteArray.empty, .int .i64 0], []⟩ 8 (by kernel_rfl) (by kernel_rfl) (by kernel_rfl) (by kernel_rfl)) ?_
  intro W base args ds gs before hval0 hW hcnd _
  have hval : ∀ (j : Nat) t v, Try.f3.params[j]? = some t → args[j]? = some v → Value.okWide Try.prog W .any base t v := hval0
  have hW' := hW
  obtain ⟨p, q, hA0, hV, rfl, hfz, hnd⟩ := hW
  have hA : DataW.TrodAll enc Try.prog W 0 (fun _ => true) true Try.f3.params.toList args.toList ds p := hA0
  rw [Try.params3] at hA hval
  obtain ⟨v0, vs0, d0, ds0, p0, q0, hargs, rfl, rfl, h0, r0⟩ := trodAll_cons hA
  obtain ⟨v1, vs1, d1, ds1, p1, q1, rfl, rfl, rfl, h1, r1⟩ := trodAll_cons r0
  obtain ⟨v2, vs2, d2, ds2, p2, q2, rfl, rfl, rfl, h2, r2⟩ := trodAll_cons r1
  obtain ⟨rfl, rfl, rfl⟩ := trodAll_nil r2
  obtain rfl : args = #[v0, v1, v2] := by cases args; simp_all
  obtain ⟨rfl, rfl⟩ := trodVars_none hV
  obtain ⟨a0, len0, cap0, rfl⟩ := okWide_slice Try.underlying22 (hval 0 22 v0 rfl rfl)
  have k0 := h0
  have lt0 : ∀ x ∈ p0, x.block < W.heap.size := by obtain ⟨m, hm⟩ := k0; exact DataW.trod_lt m _ _ _ hm
  obtain ⟨z0, w0⟩ : ∃ g, Kit.IsPairs .i64 W a0 len0 cap0 g := Kit.open_pairs Try.underlying22 Try.underlying38 Try.underlying3 (by kernel_rfl) (by kernel_rfl) h0
  obtain ⟨a1, rfl, rfl, rfl, w1⟩ := open_string Try.underlying9 (hval 1 9 v1 rfl rfl) h1
  obtain ⟨a2, rfl, rfl, rfl, w2⟩ := open_int Try.underlying3 (hval 2 3 v2 rfl rfl) h2
  clear hA0 hval0
  refine (walk a0 len0 cap0 z0 a1 a2 W w0 w1 w2).mono fun e W' ⟨he, bel⟩ => ?_
  subst he
  exact ⟨_, rfl, _, _, _, [], _, [], hW', trodAll_mk1 (shut_bool Try.underlying4 _), (trodAll_cons_mk (Below.trod laidOut (by kernel_rfl) (of_decide_eq_true (by kernel_rfl)) k0 bel lt0) (trodAll_cons_mk (shut_string Try.underlying9 w1) (trodAll_cons_mk (shut_int Try.underlying3 w2) trodAll_mk0))), rfl, bel.frame _, fun h => by cases h⟩

theorem over : Rows.rleBackRow.holds Try.pinned (OpenSpec.ofChange Rows.rleBackSpec) :=
  OpenClaim.holds_of_wide 3 Try.f3 rfl rfl rfl rfl rfl rfl rfl ⟨rfl, rfl, rfl, rfl, rfl⟩ rfl rfl rfl rfl rfl (by kernel_rfl) Try.func3 (by kernel_rfl)
    (of_decide_eq_true (by kernel_rfl)) (by unfold Func.isWrapper; first | (rw [if_pos (by decide +kernel)]; kernel_rfl) | (rw [if_neg (by decide +kernel)]; exact ⟨rfl, rfl⟩))
    (fun os started H enc _ => lifted os started H enc)

theorem proved : Rows.RleBackSaid := over
#print axioms proved
end Go.Proofs.Ythdpcjahficlnaa.rleBack
