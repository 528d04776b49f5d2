/-
  The law CrcBurst of chapter 3 returns true: texts that are as long, and unlike in at most 32 bits that stand side by side, have unlike sums.
  For every input: no condition.
-/
import Derived.Test.YtnkgkgemjledhaaRows
import Derived.Test.YtnkgkgemjledhaaLaws0
import Derived.Test.YtnkgkgemjledhaaOwn
import Derived.Test.YtnkgkgemjledhaaReg
import Derived.Test.YtnkgkgemjledhaaPlain3
import Derived.WalkLawsBesides
import Derived.WalkSpells
import Derived.Lib.Hide
import Derived.BigRegion
import Derived.WalkKit
import Derived.ProofKit
import Derived.OpenShut
import Derived.ShutString
import Derived.ChangeOld
import Derived.Below
namespace Go.Proofs.Ytnkgkgemjledhaa.crcBurst
set_option linter.unusedVariables false
open Go.RowKit
open Crc
open Go.ChangeShapes Go.WideShapes Go.ChangeAt Go.RowKit
open Go.ChangeMaps (open_string shut_string)

theorem own : ownKnob Try.prog.godebug = none := by kernel_rfl
theorem laidOut : laidOutB Try.prog = true := by kernel_rfl

theorem one8 : Kit.One Try.prog 32 5 1 := ⟨Try.underlying32, .int .u8 0, by kernel_rfl, rfl⟩
theorem bit32_int (T : BitVec 32) (m : Nat) : ((U T / (2 : Int) ^ m).tmod 2 == 1) = T.getLsbD m := by
  have e : U T / (2 : Int) ^ m = ((T.toNat / 2 ^ m : Nat) : Int) := by
    unfold U
    rw [Int.natCast_ediv, Int.natCast_pow]; rfl
  have h : T.getLsbD m = decide (T.toNat / 2 ^ m % 2 = 1) := by
    show T.toNat.testBit m = _
    rw [Nat.testBit_eq_decide_div_mod_eq]
  rw [e, h]
  generalize T.toNat / 2 ^ m = n
  rw [Int.tmod_eq_emod_of_nonneg (by omega), Bool.eq_iff_iff]
  simp
  omega
theorem turn_byte (x : UInt8) (r : Nat) (h : r < 8) : bits .xor .u8 (x.toNat : Int) ((128 : Int) / (2 : Int) ^ r) = ((x ^^^ (⟨128#8 >>> r⟩ : UInt8)).toNat : Int) := by
  have e : (128 : Int) / (2 : Int) ^ r = (((⟨128#8 >>> r⟩ : UInt8).toNat : Nat) : Int) := by
    have : ∀ r : Fin 8, (128 : Int) / (2 : Int) ^ r.val = (((128#8 >>> r.val).toNat : Nat) : Int) := by decide
    exact this ⟨r, h⟩
  rw [e, u8_xor_nat _ _ (by have := x.toNat_lt; omega) (by have := (⟨128#8 >>> r⟩ : UInt8).toNat_lt; omega), ← UInt8.toNat_xor]
set_option maxRecDepth 100000 in
set_option maxHeartbeats 1000000 in
theorem walk (a0 : ByteArray) (a1 : Int) (a2 : Int) (w : World) (w0 : a0.size ≤ maxLen) (w1 : (Lit.int .i64 a1).wf = true) (w2 : (Lit.int .u32 a2).wf = true) :
    Calls Try.prog 5 #[.string a0, .int .i64 a1, .int .u32 a2] w fun e w' => e = .returned (.bool true) ∧ Below w.heap.size w w' := by
  unfold maxLen at w0
  obtain ⟨l1, l2⟩ := bounds_u32 w2
  obtain ⟨l5, l6⟩ := bounds_i64 w1
  obtain ⟨T, rfl⟩ := U_of a2 (by omega) (by omega)
  clear w1 w2
  obtain ⟨M, t, hmin, hM1, ht, htM, HM⟩ := Kit.cut_text a0 60 60 rfl
  have htn : t.size ≤ 60 := htM
  go_enter Try.func5, Try.ntmps5
  go_wp2_with fail
  refine (awake_any _).mono ?_
  rintro e w1 ⟨rfl, b1⟩
  have hcv := run_bytes_of_string (P := Try.prog) w1 9 32 5 t Try.underlying9 Try.underlying32 Try.underlying5
  obtain ⟨cp, hcp⟩ : ∃ cp, grownCap w1 t.size 0 5 = cp := ⟨_, rfl⟩
  rw [hcp] at hcv
  obtain ⟨w2, hw2⟩ : ∃ w2, w1.drew.alloc (.cells (bytesRow t cp) 5 ((bytesRow t cp).size, (bytesRow t cp).size + 1)) = w2 := ⟨_, rfl⟩
  rw [hw2] at hcv
  have hsrc : Kit.Src w2 (some ⟨w1.heap.size, 0, none⟩) (t.data.toList.map Kit.bval) := by rw [← hw2]; exact Kit.new_bytes w1 t cp 5 _ _
  have z1 := b1.size
  have B2 : Below w.heap.size w w2 := by rw [← hw2]; exact b1.drew.alloc z1 _
  have HS := Lib.hid hsrc
  clear hsrc hw2 hcp
  by_cases h0 : t.size = 0
  · have h0' : ((t.size : Int) == 0) = true := by rw [h0]; rfl
    clear h0
    go_wp2
    go_ret
    exact ⟨rfl, B2⟩
  have h0' : ((t.size : Int) == 0) = false := by simpa using h0
  have hn1 : 1 ≤ 8 * (t.size : Int) := by omega
  obtain ⟨k, hk⟩ : ∃ k : Nat, pk a1 (8 * (t.size : Int)) = (k : Int) := Int.eq_ofNat_of_zero_le (pk_lo _ _ hn1)
  have hkM : k < 8 * t.size := by have := pk_hi a1 (8 * (t.size : Int)) hn1; omega
  have HN0 := Lib.hid h0
  clear h0
  go_wp2_with fail
  refine (pick_any a1 _ _ l5 l6 hn1 (by omega)).mono ?_
  rintro e w10 ⟨rfl, rfl⟩
  have z2 := B2.size
  have hl := t.size
  obtain ⟨a8, c8, w8, hr8, ho8, hg8⟩ := Kit.Own.app (ty := 32) one8 (Kit.Own.start w2 w2.heap.size 5) (some ⟨w1.heap.size, 0, none⟩) t.size cp (t.data.toList.map Kit.bval) HS.out (by simp) (fun h => by cases h) (Kit.bval_one _) (by unfold maxLen; omega) (by omega) (Nat.le_refl _)
  simp only [Nat.zero_add, List.nil_append] at hr8 ho8
  have b8 := Kit.grown_below hg8 (Nat.le_refl _) (by intro k hk; cases hk)
  obtain ⟨g, rfl, hgB, hgl, hmc8, hxx, hyy⟩ := ho8.at_ (by have := HN0.out; omega)
  clear hxx hyy
  go_wp2_with (at_builtin; refine Kit.app_eq rfl (.const (.slice none 0 0)) (.tmp 29) 32 rfl rfl rfl hr8 ?_)
  clear hr8 hg8
  go_loopw [11, 12] (fun v i wr => ∃ m : Nat, m ≤ 32 ∧ k + m ≤ 8 * t.size ∧ i = .int .i64 m ∧ v = .bool (someB T m) ∧ Kit.Own wr w2.heap.size 5 (some ⟨g, 0, none⟩) t.size c8 ((turnB t.data.toList k T m).map Kit.bval) ∧ Below w2.heap.size w2 wr) (fun _ i _ => 32 - (intOf i).toNat)
  case atStart => exact ⟨0, by omega, by omega, rfl, rfl, ho8, b8⟩
  case round =>
    obtain ⟨m, hm, hkm, rfl, rfl, hown, hb⟩ := hrel
    by_cases hin : m < 32 ∧ k + m < 8 * t.size
    · obtain ⟨hlt, hlt2⟩ := hin
      all_goals
        have hq : (k + m) / 8 < t.size := by omega
        obtain ⟨_, e1, _, _, _, hcell, hfrz⟩ := hown.at_ (by omega)
        injection e1 with e1
        injection e1 with e1
        subst e1
        have hck := hcell ((k + m) / 8) hq
        have hfk := hfrz ((k + m) / 8)
        have hlen2 : (turnB t.data.toList k T m).length = t.size := by rw [turnB_length t.data.toList k T m]; simp
        obtain ⟨x, hx⟩ : ∃ x, (turnB t.data.toList k T m).getD ((k + m) / 8) 0 = x := ⟨_, rfl⟩
        have hck2 : wr.cell? ⟨g, (k + m) / 8, none⟩ = some (.int .u8 (x.toNat : Int)) := by
          have hqL : (k + m) / 8 < (turnB t.data.toList k T m).length := by rw [hlen2]; exact hq
          rw [hck, List.getElem?_map, ← hx, List.getD, List.getElem?_eq_getElem hqL]; rfl
        have HXE := Lib.hid hx
        have HLN := Lib.hid hlen2
        clear hx hlen2 hck hcell hfrz
        have hbit := bit32_int T m
        have hq1 : (0 : Int) ≤ ((k : Int) + (m : Int)) / 8 := by omega
        have hq2 : ((k : Int) + (m : Int)) / 8 < (t.size : Int) := by omega
        have hr1 : (0 : Int) ≤ ((k : Int) + (m : Int)) % 8 := by omega
        have hr2 : ((k : Int) + (m : Int)) % 8 < 8 := by omega
        cases hT : T.getLsbD m
        · rw [hT] at hbit
          have HT := Lib.hid hT
          clear hT
          go_wp2
          go_roundw
          case rel => exact ⟨m + 1, by omega, by omega, by go_num, by rw [someB, HT.out]; rfl, by rw [turnB, HT.out]; exact hown, hb⟩
          case measure => simp [intOf]; omega
        · rw [hT] at hbit
          have HT := Lib.hid hT
          clear hT
          go_wp2
          obtain ⟨wo, rfl⟩ : ∃ wo : World, wo = wr := ⟨_, rfl⟩
          go_region
          rw [turn_byte x _ (Nat.mod_lt _ (by omega))]
          have hset := hown.set ((k + m) / 8) (Kit.bval (x ^^^ ⟨128#8 >>> ((k + m) % 8)⟩)) hq
          rw [← List.map_set] at hset
          have hb2 := hb.setCell (p := ⟨g, (k + m) / 8, none⟩) hgB (Kit.bval (x ^^^ ⟨128#8 >>> ((k + m) % 8)⟩))
          have HSET := Lib.hid hset
          clear hset
          go_wp2
          go_roundw
          case rel => exact ⟨m + 1, by omega, by omega, by go_num, by rw [someB, HT.out]; rfl, by rw [turnB, HT.out, if_pos rfl, HXE.out]; exact HSET.out, hb2.drew⟩
          case measure => simp [intOf]; omega
    · have hbu := burst t.data.toList k T m hm (by simpa using hkm)
      have hlen2 : (turnB t.data.toList k T m).length = t.size := by rw [turnB_length t.data.toList k T m]; simp
      obtain ⟨tt, htt⟩ : ∃ tt : ByteArray, (⟨t.data.toList.toArray⟩ : ByteArray) = tt := ⟨_, rfl⟩
      obtain ⟨uu, huu⟩ : ∃ uu : ByteArray, (⟨(turnB t.data.toList k T m).toArray⟩ : ByteArray) = uu := ⟨_, rfl⟩
      obtain ⟨p, hp⟩ : ∃ p, sum t.data.toList = p := ⟨_, rfl⟩
      obtain ⟨q, hqq⟩ : ∃ q, sum (turnB t.data.toList k T m) = q := ⟨_, rfl⟩
      have hs1 := HS.out.below hb
      have hs2 := hown.src
      have hcv1 : ∀ s : Kit.Cls wr, (convert 32 9 (.slice (some ⟨w1.heap.size, 0, none⟩) t.size cp)).run Try.prog s.to = .ok (.string tt) s.to := fun s => by rw [← htt]; exact (hs1.cls s).text (by simp) Try.underlying32 Try.underlying5 Try.underlying9
      have hcv2 : ∀ s : Kit.Cls wr, (convert 32 9 (.slice (some ⟨g, 0, none⟩) t.size c8)).run Try.prog s.to = .ok (.string uu) s.to := fun s => by rw [← huu]; exact (hs2.cls s).text hlen2 Try.underlying32 Try.underlying5 Try.underlying9
      have C1 := Lib.hid (sum_is tt p (by rw [← htt]; show t.data.toList.toArray.size ≤ _; simp; omega) (by rw [← htt]; exact hp))
      have C2 := Lib.hid (sum_is uu q (by rw [← huu]; show (turnB t.data.toList k T m).toArray.size ≤ _; rw [List.size_toArray, hlen2]; omega) (by rw [← huu]; exact hqq))
      have hbq : (U p == U q) = !someB T m := by rw [U_beq, ← hp, ← hqq]; exact hbu
      have hin2 : m = 32 ∨ (m < 32 ∧ k + m = 8 * t.size) := by omega
      have HOWN := Lib.hid hown
      clear hbu hlen2 htt huu hp hqq hs1 hs2 hown hin hcv
      have hB := B2.trans (hb.mono z2)
      rcases hin2 with h32 | ⟨h32, hk8⟩
      all_goals
        cases hsb : someB T m
        all_goals
          rw [hsb] at hbq
          first
            | (have hge : (32 : Int) ≤ (m : Int) := by omega
               clear h32)
            | (have hge : (m : Int) < 32 := by omega
               have hge2 : 8 * (t.size : Int) ≤ (k : Int) + (m : Int) := by omega
               clear hk8)
          go_wp2
          refine Kit.region_below (by kernel_rfl) (by kernel_rfl) ?_
          repeat (go_big_quiet_step (first | (with_reducible exact Kit.quiet_call (C1.out _)) | (with_reducible exact Kit.quiet_call (C2.out _))))
          refine wpQuiet_nil ?_
          intro _ hw'
          obtain ⟨s, hs⟩ := hw'
          subst hs
          go_wp2
          go_ret
          exact ⟨rfl, hB.trans (s.below.mono hB.size)⟩

set_option maxRecDepth 100000 in
set_option maxHeartbeats 400000 in
theorem lifted (os : Os) (started : os.Started) (H : Type) (enc : TypeId × Value → H) :
    ReturnsInHanded {} Try.checked os 5 .any (Rows.crcBurstSpec.pre6 enc Try.prog Try.f5 Rows.crcBurstRow.domain false) (Rows.crcBurstSpec.post enc Try.prog Try.f5 false true false false) := by
  refine returnsInHanded_of_change (C := Try.checked) own started (by kernel_rfl) Try.func5
    (ChangeSpec.witness6 (enc := enc) (C := Try.checked) false ⟨#[], #[.string ByteArray.empty, .int .i64 0, .int .u32 0], []⟩ 8 (by kernel_rfl) (by kernel_rfl) (by kernel_rfl) (by kernel_rfl)) ?_
  intro W base args ds gs before hval0 hW hcnd _
  have hval : ∀ (j : Nat) t v, Try.f5.params[j]? = some t → args[j]? = some v → Value.okWide Try.prog W .any base t v := hval0
  have hW' := hW
  obtain ⟨p, q, hA0, hV, rfl, hfz, hnd⟩ := hW
  have hA : DataW.TrodAll enc Try.prog W 0 (fun _ => true) true Try.f5.params.toList args.toList ds p := hA0
  rw [Try.params5] at hA hval
  obtain ⟨v0, vs0, d0, ds0, p0, q0, hargs, rfl, rfl, h0, r0⟩ := trodAll_cons hA
  obtain ⟨v1, vs1, d1, ds1, p1, q1, rfl, rfl, rfl, h1, r1⟩ := trodAll_cons r0
  obtain ⟨v2, vs2, d2, ds2, p2, q2, rfl, rfl, rfl, h2, r2⟩ := trodAll_cons r1
  obtain ⟨rfl, rfl, rfl⟩ := trodAll_nil r2
  obtain rfl : args = #[v0, v1, v2] := by cases args; simp_all
  obtain ⟨rfl, rfl⟩ := trodVars_none hV
  obtain ⟨a0, rfl, rfl, rfl, w0⟩ := open_string Try.underlying9 (hval 0 9 v0 rfl rfl) h0
  obtain ⟨a1, rfl, rfl, rfl, w1⟩ := open_int Try.underlying3 (hval 1 3 v1 rfl rfl) h1
  obtain ⟨a2, rfl, rfl, rfl, w2⟩ := open_int Try.underlying22 (hval 2 22 v2 rfl rfl) h2
  clear hA0 hval0
  refine (walk a0 a1 a2 W w0 w1 w2).mono fun e W' ⟨he, bel⟩ => ?_
  subst he
  exact ⟨_, rfl, _, _, _, [], _, [], hW', trodAll_mk1 (shut_bool Try.underlying4 _), (trodAll_cons_mk (shut_string Try.underlying9 w0) (trodAll_cons_mk (shut_int Try.underlying3 w1) (trodAll_cons_mk (shut_int Try.underlying22 w2) trodAll_mk0))), rfl, bel.frame _, fun h => by cases h⟩

theorem over : Rows.crcBurstRow.holds Try.pinned (OpenSpec.ofChange Rows.crcBurstSpec) :=
  OpenClaim.holds_of_wide 5 Try.f5 rfl rfl rfl rfl rfl rfl rfl ⟨rfl, rfl, rfl, rfl, rfl⟩ rfl rfl rfl rfl rfl (by kernel_rfl) Try.func5 (by kernel_rfl)
    (of_decide_eq_true (by kernel_rfl)) (by unfold Func.isWrapper; first | (rw [if_pos (by decide +kernel)]; kernel_rfl) | (rw [if_neg (by decide +kernel)]; exact ⟨rfl, rfl⟩))
    (fun os started H enc _ => lifted os started H enc)

theorem proved : Rows.CrcBurstSaid := over
#print axioms proved
end Go.Proofs.Ytnkgkgemjledhaa.crcBurst
