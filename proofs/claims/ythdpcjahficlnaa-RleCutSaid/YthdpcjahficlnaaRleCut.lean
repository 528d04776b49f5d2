/-
  The law RleCut of chapter 4 returns true: what Cut tells has room, and one byte more has not; with more room there is no less; what is cut and packed, piece by piece, unpacked, is the text.
  For every input: no condition.
-/
import Derived.Test.YthdpcjahficlnaaRows
import Derived.Test.YthdpcjahficlnaaRLaws0
import Derived.WalkLawsBesides
import Derived.WalkSpells
import Derived.Lib.Hide
import Derived.WalkKit
import Derived.ProofKit
import Derived.OpenShut
import Derived.ShutString
import Derived.ChangeOld
import Derived.Below
import Derived.Test.YthdpcjahficlnaaKit
namespace Go.Proofs.Ythdpcjahficlnaa.rleCut
set_option linter.unusedVariables false
open Go.RowKit
open Rle
open Go.ChangeShapes Go.WideShapes Go.ChangeAt Go.RowKit
open Go.ChangeMaps (open_string shut_string)

theorem own : ownKnob Try.prog.godebug = none := by kernel_rfl
theorem laidOut : laidOutB Try.prog = true := by kernel_rfl

theorem empty_iff (l : T) : (bs l).toList.isEmpty = decide (l = []) := by
  rw [Lib.toList_data, bs_list]
  cases l <;> simp
set_option maxRecDepth 100000 in
set_option maxHeartbeats 4000000 in
theorem walk (a0 : Option Addr) (len0 cap0 : Nat) (z0 : Nat → Int × Int) (a1 : Int) (w : World) (w0 : Kit.IsPairs .i64 w a0 len0 cap0 z0) (w1 : (Lit.int .i64 a1).wf = true) :
    Calls Try.prog 5 #[.slice a0 len0 cap0, .int .i64 a1] w fun e w' => e = .returned (.bool true) ∧ Below w.heap.size w w' := by
  obtain ⟨l1, u1⟩ := bounds_i64 w1
  obtain ⟨q, hq, cp⟩ := pick_nat a1 60 l1 u1 (by omega) (by omega) 60 rfl
  have CP := Lib.hid cp
  have W0 := Lib.hid w0
  have hnil : (⟨#[]⟩ : ByteArray) = bs [] := by unfold bs; rfl
  have HNIL := Lib.hid hnil
  clear w0 cp w1 l1 u1 hnil
  go_enter Try.func5, Try.ntmps5
  go_wp2_with fail
  refine (awake_any _).mono ?_
  rintro e w1 ⟨rfl, b1⟩
  have z1 := b1.size
  go_wp2_with fail
  refine (Runs_any a0 len0 cap0 z0 600 (by omega) 600 rfl _ (pairs_below W0.out b1)).mono ?_
  rintro e w2 ⟨s, rfl, hs, b2⟩
  have B2 : Below w.heap.size w w2 := b1.trans (b2.mono z1)
  have z2 := B2.size
  clear b1 b2 z1
  go_wp2_with fail
  refine (CP.out _).mono ?_
  rintro e w3 ⟨rfl, rfl⟩
  obtain ⟨S, hS⟩ : ∃ S, s.data.toList = S := ⟨_, rfl⟩
  have hSl : S.length ≤ 600 := by rw [← hS, len_text]; exact hs
  have hsS : s = bs S := by rw [← hS, bs_of]
  subst hsS
  clear hS hs
  obtain ⟨r, hr⟩ : ∃ r : Nat, 4 + q = r := ⟨_, rfl⟩
  have hr2 : (4 : Int) + (q : Int) = (r : Int) := by omega
  have hr3 : 4 ≤ r ∧ r < 64 := by omega
  clear hr
  go_wp2
  go_loopw [8, 9, 10] (fun o v i wr => ∃ (k d : Nat), k ≤ d ∧ d ≤ S.length ∧ i = .int .i64 k ∧ o = .string (bs (S.take d)) ∧ v = .string (bs (S.drop d)) ∧ Below w.heap.size w wr) (fun _ _ i _ => 601 - (intOf i).toNat)
  case atStart => exact ⟨0, 0, by omega, by omega, rfl, by rw [List.take_zero, ← HNIL.out], by rw [List.drop_zero], B2⟩
  case round =>
    obtain ⟨i, d, hid, hd, rfl, rfl, rfl, hb⟩ := hrel
    obtain ⟨R, hR⟩ : ∃ R, S.drop d = R := ⟨_, rfl⟩
    have hRl : R.length = S.length - d := by rw [← hR, List.length_drop]
    have hemp := empty_iff R
    rw [hR]
    by_cases hne : R = []
    · rw [decide_eq_true hne] at hemp
      have hfull : S.take d = S := by
        have : R.length = 0 := by rw [hne]; rfl
        exact List.take_of_length_le (by omega)
      rw [hfull]
      have C0 := Lib.hid (cut_lit (bs S) 0 0 (by rw [bs_size]; omega) (by omega) (by omega) (by rw [cut_none _ _ (by omega)]; rfl))
      have C1 := Lib.hid (cut_lit (bs S) (-(r : Int)) 0 (by rw [bs_size]; omega) (by omega) (by omega) (by rw [cut_none _ _ (by omega)]; rfl))
      have C2 := Lib.hid (cut_lit (bs S) 800 (S.length : Int) (by rw [bs_size]; omega) (by omega) (by omega) (by
        have := (Len_bounds S).1
        rw [bs_list, cut_all _ _ (by omega)]))
      have hss := bs_size S
      have zb := hb.size
      clear hne hR hRl hfull
      go_wp2_with fail
      refine (C0.out _).mono ?_
      rintro e w4 ⟨rfl, b4⟩
      have B4 : Below w.heap.size w w4 := hb.trans (b4.mono zb)
      have z4 := B4.size
      clear b4
      go_wp2_with fail
      refine (C1.out _).mono ?_
      rintro e w5 ⟨rfl, b5⟩
      have B5 : Below w.heap.size w w5 := B4.trans (b5.mono z4)
      have z5 := B5.size
      clear B4 b5 z4
      go_wp2_with fail
      refine (C2.out _).mono ?_
      rintro e w6 ⟨rfl, b6⟩
      have B6 : Below w.heap.size w w6 := B5.trans (b6.mono z5)
      clear B5 b6 z5
      go_wp2
      go_ret
      exact ⟨rfl, B6⟩
    · rw [decide_eq_false hne] at hemp
      have hk1 := cut_pos R (r : Int) hne (by omega)
      obtain ⟨hk2, hk3, hk4⟩ := cut_spec R (r : Int) (by omega)
      have hmo := cut_mono R (r : Int)
      have hCC : (cut R (r : Int) : Int) = (cut R (r : Int) : Int) := rfl
      obtain ⟨k, hk⟩ : ∃ k, cut R (r : Int) = k := ⟨_, rfl⟩
      have CC := Lib.hid (cut_lit (bs R) (r : Int) (k : Int) (by rw [bs_size]; omega) (by omega) (by omega) (by rw [bs_list, hk]))
      obtain ⟨k', hk'⟩ : ∃ k', cut R ((r : Int) + 1) = k' := ⟨_, rfl⟩
      have CC2 := Lib.hid (cut_lit (bs R) ((r : Int) + 1) (k' : Int) (by rw [bs_size]; omega) (by omega) (by omega) (by rw [bs_list, hk']))
      rw [hk] at hk1 hk2 hk3 hk4 hmo
      rw [hk'] at hmo
      have hRs := bs_size R
      have hRl2 : R.length ≤ 600 := by omega
      have hsl : (bs R).extract 0 k = bs (R.take k) := bs_take R k
      have hdr : (bs R).extract k (S.length - d) = bs (R.drop k) := by rw [← hRl, ← hRs]; exact bs_drop R k
      obtain ⟨n1, hn1⟩ : ∃ n1, Len (R.take k) = n1 := ⟨_, rfl⟩
      rw [hn1] at hk3
      have CL1 := Lib.hid (length_lit (bs (R.take k)) (n1 : Int) (by rw [bs_size, List.length_take]; omega) (by rw [bs_list, hn1]))
      obtain ⟨p, hp⟩ : ∃ p, bs (pack (R.take k)) = p := ⟨_, rfl⟩
      have hps : p.size ≤ 1000 := by
        have h1 := (Len_bounds (R.take k)).1
        rw [List.length_take] at h1
        rw [← hp, bs_size]; show Len (R.take k) ≤ 1000; omega
      have hpl : p.data.toList = pack (R.take k) := by rw [← hp, bs_list]
      have htl : (R.take k).length = k := by rw [List.length_take]; omega
      have CPK := Lib.hid (pack_lit (bs (R.take k)) p (by rw [bs_size, List.length_take]; omega) (by rw [bs_list, hp]))
      have CU := Lib.hid (unpack_lit p (k : Int) (bs (R.take k)) 0 (by omega) (by omega) (by omega) (by rw [hpl, res_pack _ _ (by omega)]) (by rw [hpl, code_pack _ _ (by omega)]))
      have hjoin : bs (S.take d) ++ bs (R.take k) = bs (S.take (d + k)) := by
        rw [← bs_append, ← hR, List.take_add]
      have hrest : R.drop k = S.drop (d + k) := by rw [← hR, List.drop_drop]
      have hts : (bs (S.take d)).size ≤ 600 := by rw [bs_size, List.length_take]; omega
      have hts2 : (bs (R.take k)).size ≤ 600 := by rw [bs_size, List.length_take]; omega
      have zb := hb.size
      have HSL := Lib.hid hsl
      have HDR := Lib.hid hdr
      have HJ := Lib.hid hjoin
      have HRE := Lib.hid hrest
      have i0 : (0 : Int) ≤ (k : Int) := by omega
      have i1 : (k : Int) ≤ ((bs R).size : Int) := by rw [hRs]; omega
      have hkd : d + k ≤ S.length := by omega
      clear hne hR hn1 hp hpl htl hk hk' hsl hdr hjoin hrest
      by_cases hlast : k < R.length
      · have hk5 := hk4 hlast
        have hsl2 : (bs R).extract 0 (k + 1) = bs (R.take (k + 1)) := bs_take R (k + 1)
        obtain ⟨n2, hn2⟩ : ∃ n2, Len (R.take (k + 1)) = n2 := ⟨_, rfl⟩
        rw [hn2] at hk5
        have CL2 := Lib.hid (length_lit (bs (R.take (k + 1))) (n2 : Int) (by rw [bs_size, List.length_take]; omega) (by rw [bs_list, hn2]))
        have HSL2 := Lib.hid hsl2
        have i2 : (k : Int) + 1 ≤ ((bs R).size : Int) := by rw [hRs]; omega
        clear hn2 hsl2 hk4
        go_wp2_with fail
        refine (CC.out _).mono ?_
        rintro e w4 ⟨rfl, b4⟩
        have B4 : Below w.heap.size w w4 := hb.trans (b4.mono zb)
        have z4 := B4.size
        clear b4
        go_wp2_with fail
        rw [HSL.out]
        refine (CL1.out _).mono ?_
        rintro e w5 ⟨rfl, b5⟩
        have B5 : Below w.heap.size w w5 := B4.trans (b5.mono z4)
        have z5 := B5.size
        clear b5 B4 z4
        go_wp2_with fail
        rw [HSL2.out]
        refine (CL2.out _).mono ?_
        rintro e w6 ⟨rfl, b6⟩
        have B6 : Below w.heap.size w w6 := B5.trans (b6.mono z5)
        have z6 := B6.size
        clear b6 B5 z5
        go_wp2_with fail
        refine (CC2.out _).mono ?_
        rintro e w7 ⟨rfl, b7⟩
        have B7 : Below w.heap.size w w7 := B6.trans (b7.mono z6)
        have z7 := B7.size
        clear b7 B6 z6
        go_wp2_with fail
        rw [HSL.out]
        refine (CPK.out _).mono ?_
        rintro e w8 ⟨rfl, b8⟩
        have B8 : Below w.heap.size w w8 := B7.trans (b8.mono z7)
        have z8 := B8.size
        clear b8 B7 z7
        go_wp2_with fail
        refine (CU.out _).mono ?_
        rintro e w9 ⟨rfl, b9⟩
        have B9 : Below w.heap.size w w9 := B8.trans (b9.mono z8)
        have z9 := B9.size
        clear b9 B8 z8
        go_wp2
        go_roundw
        case rel => exact ⟨i + 1, d + k, by omega, hkd, by go_num, by rw [HJ.out], by rw [HDR.out, HRE.out], B9⟩
        case measure => simp [intOf]; omega
      · clear hk4
        go_wp2_with fail
        refine (CC.out _).mono ?_
        rintro e w4 ⟨rfl, b4⟩
        have B4 : Below w.heap.size w w4 := hb.trans (b4.mono zb)
        have z4 := B4.size
        clear b4
        go_wp2_with fail
        rw [HSL.out]
        refine (CL1.out _).mono ?_
        rintro e w5 ⟨rfl, b5⟩
        have B5 : Below w.heap.size w w5 := B4.trans (b5.mono z4)
        have z5 := B5.size
        clear b5 B4 z4
        go_wp2_with fail
        refine (CC2.out _).mono ?_
        rintro e w7 ⟨rfl, b7⟩
        have B7 : Below w.heap.size w w7 := B5.trans (b7.mono z5)
        have z7 := B7.size
        clear b7 B5 z5
        go_wp2_with fail
        rw [HSL.out]
        refine (CPK.out _).mono ?_
        rintro e w8 ⟨rfl, b8⟩
        have B8 : Below w.heap.size w w8 := B7.trans (b8.mono z7)
        have z8 := B8.size
        clear b8 B7 z7
        go_wp2_with fail
        refine (CU.out _).mono ?_
        rintro e w9 ⟨rfl, b9⟩
        have B9 : Below w.heap.size w w9 := B8.trans (b9.mono z8)
        have z9 := B9.size
        clear b9 B8 z8
        go_wp2
        go_roundw
        case rel => exact ⟨i + 1, d + k, by omega, hkd, by go_num, by rw [HJ.out], by rw [HDR.out, HRE.out], B9⟩
        case measure => simp [intOf]; omega

set_option maxRecDepth 100000 in
set_option maxHeartbeats 400000 in
theorem lifted (os : Os) (started : os.Started) (H : Type) (enc : TypeId × Value → H) :
    ReturnsInHanded {} Try.checked os 5 .any (Rows.rleCutSpec.pre6 enc Try.prog Try.f5 Rows.rleCutRow.domain false) (Rows.rleCutSpec.post enc Try.prog Try.f5 false true false false) := by
  refine returnsInHanded_of_change (C := Try.checked) own started (by kernel_rfl) Try.func5
    (ChangeSpec.witness6 (enc := enc) (C := Try.checked) false ⟨#[], #[.slice none 0 0, .int .i64 0], []⟩ 8 (by kernel_rfl) (by kernel_rfl) (by kernel_rfl) (by kernel_rfl)) ?_
  intro W base args ds gs before hval0 hW hcnd _
  have hval : ∀ (j : Nat) t v, Try.f5.params[j]? = some t → args[j]? = some v → Value.okWide Try.prog W .any base t v := hval0
  have hW' := hW
  obtain ⟨p, q, hA0, hV, rfl, hfz, hnd⟩ := hW
  have hA : DataW.TrodAll enc Try.prog W 0 (fun _ => true) true Try.f5.params.toList args.toList ds p := hA0
  rw [Try.params5] at hA hval
  obtain ⟨v0, vs0, d0, ds0, p0, q0, hargs, rfl, rfl, h0, r0⟩ := trodAll_cons hA
  obtain ⟨v1, vs1, d1, ds1, p1, q1, rfl, rfl, rfl, h1, r1⟩ := trodAll_cons r0
  obtain ⟨rfl, rfl, rfl⟩ := trodAll_nil r1
  obtain rfl : args = #[v0, v1] := by cases args; simp_all
  obtain ⟨rfl, rfl⟩ := trodVars_none hV
  obtain ⟨a0, len0, cap0, rfl⟩ := okWide_slice Try.underlying22 (hval 0 22 v0 rfl rfl)
  have k0 := h0
  have lt0 : ∀ x ∈ p0, x.block < W.heap.size := by obtain ⟨m, hm⟩ := k0; exact DataW.trod_lt m _ _ _ hm
  obtain ⟨z0, w0⟩ : ∃ g, Kit.IsPairs .i64 W a0 len0 cap0 g := Kit.open_pairs Try.underlying22 Try.underlying38 Try.underlying3 (by kernel_rfl) (by kernel_rfl) h0
  obtain ⟨a1, rfl, rfl, rfl, w1⟩ := open_int Try.underlying3 (hval 1 3 v1 rfl rfl) h1
  clear hA0 hval0
  refine (walk a0 len0 cap0 z0 a1 W w0 w1).mono fun e W' ⟨he, bel⟩ => ?_
  subst he
  exact ⟨_, rfl, _, _, _, [], _, [], hW', trodAll_mk1 (shut_bool Try.underlying4 _), (trodAll_cons_mk (Below.trod laidOut (by kernel_rfl) (of_decide_eq_true (by kernel_rfl)) k0 bel lt0) (trodAll_cons_mk (shut_int Try.underlying3 w1) trodAll_mk0)), rfl, bel.frame _, fun h => by cases h⟩

theorem over : Rows.rleCutRow.holds Try.pinned (OpenSpec.ofChange Rows.rleCutSpec) :=
  OpenClaim.holds_of_wide 5 Try.f5 rfl rfl rfl rfl rfl rfl rfl ⟨rfl, rfl, rfl, rfl, rfl⟩ rfl rfl rfl rfl rfl (by kernel_rfl) Try.func5 (by kernel_rfl)
    (of_decide_eq_true (by kernel_rfl)) (by unfold Func.isWrapper; first | (rw [if_pos (by decide +kernel)]; kernel_rfl) | (rw [if_neg (by decide +kernel)]; exact ⟨rfl, rfl⟩))
    (fun os started H enc _ => lifted os started H enc)

theorem proved : Rows.RleCutSaid := over
#print axioms proved
end Go.Proofs.Ythdpcjahficlnaa.rleCut
