/-
  The law FrontNames of chapter 5 returns true: what is told hangs on which bytes are the same, not on which they are.
  For every input: no condition.
-/
import Derived.Test.YtlanididnlmnhaaRows
import Derived.Test.YtlanididnlmnhaaFLaws0
import Derived.WalkLawsBesides
import Derived.WalkSpells
import Derived.Lib.Hide
import Derived.WalkKit
import Derived.ProofKit
import Derived.OpenShut
import Derived.ShutString
import Derived.ChangeOld
import Derived.Below
namespace Go.Proofs.Ytlanididnlmnhaa.frontNames
set_option linter.unusedVariables false
open Go.RowKit
open Front
open Go.ChangeShapes Go.WideShapes Go.ChangeAt Go.RowKit
open Go.ChangeMaps (open_string shut_string)

theorem own : ownKnob Try.prog.godebug = none := by kernel_rfl
theorem laidOut : laidOutB Try.prog = true := by kernel_rfl

/-- A slice of integers that came in. -/
def IsRow (k : IntKind) (w : World) (a : Option Addr) (len cap : Nat) (zs : List Int) : Prop :=
  (a = none ∧ len = 0 ∧ cap = 0 ∧ zs = []) ∨
  ∃ x, a = some x ∧ len ≤ cap ∧ cap ≤ maxLen ∧ zs.length = cap ∧ (∀ i, i < zs.length → w.cell? (x.add i) = some (.int k (zs.getD i 0))) ∧ ∀ n ∈ zs, (Lit.int k n).wf = true

theorem step_map (A : List UInt8) (k : Nat) (hk : k < A.length) (t : UInt8) : ((A.take (k + 1)).map (· ^^^ t)) = (A.take k).map (· ^^^ t) ++ [A[k] ^^^ t] := by
  rw [List.take_succ_eq_append_getElem hk, List.map_append]; rfl
set_option maxRecDepth 100000 in
set_option maxHeartbeats 4000000 in
theorem walk (a0 : ByteArray) (a1 : Option Addr) (len1 cap1 : Nat) (z1 : List Int) (a2 : Int) (w : World) (w0 : a0.size ≤ maxLen) (w1 : IsRow .i64 w a1 len1 cap1 z1) (w2 : (Lit.int .u8 a2).wf = true) :
    Calls Try.prog 8 #[.string a0, .slice a1 len1 cap1, .int .u8 a2] w fun e w' => e = .returned (.bool true) ∧ Below w.heap.size w w' := by
  obtain ⟨l, hl, hlm, hlc, hcm, hnone, hsrc, hbd⟩ := ints_of w1
  clear w1
  obtain ⟨t0, t1⟩ := bounds_u8 w2
  obtain ⟨t, rfl⟩ := byte_of t0 t1
  have HL := Lib.hid hl
  have HSRC := Lib.hid hsrc
  have HBD := Lib.hid hbd
  have HLM := Lib.hid hlm
  have hs0 : a0.size ≤ maxLen := w0
  unfold maxLen at hlm
  clear hl hsrc hbd w0 hcm hnone hlc w2 t0 t1
  go_enter Try.func8, Try.ntmps8
  go_wp2_with fail
  refine (awake_any _).mono ?_
  rintro e w1 ⟨rfl, b1⟩
  go_wp2_with fail
  refine (alphabet_any _ hs0 _).mono ?_
  rintro e w2 ⟨rfl, rfl⟩
  obtain ⟨A, hA⟩ : ∃ A, alpha a0.data.toList = A := ⟨_, rfl⟩
  have hnod : A.Nodup := by rw [← hA]; exact alpha_nodup _
  have hlen : A.length ≤ 30 := by rw [← hA]; exact alpha_len _
  rw [hA]
  clear hA
  have S1 := Lib.hid (HSRC.out.below b1)
  go_wp2_with fail
  refine (text_any (bs A) (by rw [bs_size]; omega) _ _ _ l HL.out 100 (by omega) HLM.out _ S1.out HBD.out).mono ?_
  rintro e w3 ⟨rfl, rfl⟩
  rw [bs_list]
  obtain ⟨S, hS⟩ : ∃ S, text A (l.take 100) = S := ⟨_, rfl⟩
  have hall : all A S = true := by rw [← hS]; exact text_all _ _
  have hSl : S.length ≤ 100 := by rw [← hS, text_len]; have := picks_le A (l.take 100); rw [List.length_take] at this; omega
  rw [hS]
  clear hS
  obtain ⟨a, ha⟩ : ∃ a, bs A = a := ⟨_, rfl⟩
  obtain ⟨s, hs⟩ : ∃ s, bs S = s := ⟨_, rfl⟩
  have hasz : a.size = A.length := by rw [← ha, bs_size]
  have hssz : s.size = S.length := by rw [← hs, bs_size]
  have hat : ∀ k (h : k < a.size) (h2 : k < A.length), a[k] = A[k] := by
    intro k h h2; subst ha; rw [← get_text (bs A) k h]; simp only [bs_list]
  have hst : ∀ k (h : k < s.size) (h2 : k < S.length), s[k] = S[k] := by
    intro k h h2; subst hs; rw [← get_text (bs S) k h]; simp only [bs_list]
  rw [ha, hs]
  have hasz2 : a.size ≤ 30 := by omega
  have hssz2 : s.size ≤ 100 := by omega
  have HN := Lib.hid hnod
  have HALL := Lib.hid hall
  have HAT := Lib.hid hat
  have HST := Lib.hid hst
  have HA := Lib.hid ha
  have HS := Lib.hid hs
  have HAZ := Lib.hid hasz
  have HSZ := Lib.hid hssz
  clear hnod hall hat hst ha hs hasz hssz
  have z1 := b1.size
  go_wp2
  go_loopw [10, 12] (fun v i wr => ∃ (k : Nat) (p : Option Addr) (c : Nat), k ≤ a.size ∧ i = .int .i64 k ∧ v = .slice p k c ∧ RowKit.Hid (Kit.Own wr w.heap.size 5 p k c (((A.take k).map (· ^^^ t)).map Kit.bval)) ∧ Below w.heap.size w wr) (fun _ i _ => a.size - (intOf i).toNat)
  case atStart => exact ⟨0, none, 0, by omega, rfl, rfl, Kit.Own.start _ _ _, b1⟩
  case round =>
    obtain ⟨k, p, c, hk, rfl, rfl, hown, hb⟩ := hrel
    by_cases hlt : k < a.size
    · have hx := byte_xor a[k] t
      obtain ⟨x, hxe⟩ : ∃ x, a[k] ^^^ t = x := ⟨_, rfl⟩
      rw [hxe] at hx
      have zr := hb.size
      have hst := step_map A k (by rw [← HAZ.out]; exact hlt) t
      rw [← HAT.out k hlt (by rw [← HAZ.out]; exact hlt), hxe] at hst
      have HSTEP := Lib.hid hst
      clear hxe hst
      obtain ⟨p3, c3, w3, hr3, ho3, hg3⟩ := Kit.Own.app (ty := 40) (w := wr.alloc (.cells #[.int .u8 (x.toNat : Int)] 5)) one_byte (hown.out.alloc _) (some ⟨wr.heap.size, 0, none⟩) 1 1 [Kit.bval x] (Kit.new_one wr _ 5) rfl (fun h => by cases h) (Kit.bval_one [x]) (by unfold maxLen; omega) (by omega) (by simp; omega)
      have hb3 : Below w.heap.size w w3 := hb.trans (((Below.refl _ _).alloc zr _).trans ((Below.refl _ _).grown hg3 (by simp; omega) (fun q hq => hown.out.block q hq)))
      have HO3 := Lib.hid ho3
      have HB3 := Lib.hid hb3
      clear ho3 hb3 hg3
      go_wp2_with (at_builtin; refine Kit.app_eq rfl (.tmp 30) (.tmp 36) 40 rfl rfl rfl hr3 ?_)
      go_roundw
      case rel =>
        refine ⟨k + 1, p3, c3, by omega, by go_num, rfl, ?_, HB3.out⟩
        rw [HSTEP.out, List.map_append]; exact HO3
      case measure => simp [intOf]; omega
    · have hka : k = A.length := by have := HAZ.out; omega
      have hfull : A.take k = A := List.take_of_length_le (by omega)
      rw [hfull] at hown
      have HKA := Lib.hid hka
      have zr := hb.size
      have SA := Lib.hid hown.out.src
      clear hfull hka hown
      obtain ⟨wm, rfl⟩ : ∃ wm : World, wm = wr := ⟨_, rfl⟩
      go_wp2
      go_loopw [11, 13] (fun v i wr => ∃ (m : Nat) (q : Option Addr) (d : Nat), m ≤ s.size ∧ i = .int .i64 m ∧ v = .slice q m d ∧ RowKit.Hid (Kit.Own wr wm.heap.size 5 q m d (((S.take m).map (· ^^^ t)).map Kit.bval)) ∧ Below wm.heap.size wm wr) (fun _ i _ => s.size - (intOf i).toNat)
      case atStart => exact ⟨0, none, 0, by omega, rfl, rfl, Kit.Own.start _ _ _, Below.refl _ _⟩
      case round =>
        obtain ⟨m, q, d, hm, rfl, rfl, hown, hbt⟩ := hrel
        by_cases hlt2 : m < s.size
        · have hx := byte_xor s[m] t
          obtain ⟨x, hxe⟩ : ∃ x, s[m] ^^^ t = x := ⟨_, rfl⟩
          rw [hxe] at hx
          have zt := hbt.size
          have hst := step_map S m (by rw [← HSZ.out]; exact hlt2) t
          rw [← HST.out m hlt2 (by rw [← HSZ.out]; exact hlt2), hxe] at hst
          have HSTEP := Lib.hid hst
          clear hxe hst
          obtain ⟨p3, c3, w3, hr3, ho3, hg3⟩ := Kit.Own.app (ty := 40) (w := wr.alloc (.cells #[.int .u8 (x.toNat : Int)] 5)) one_byte (hown.out.alloc _) (some ⟨wr.heap.size, 0, none⟩) 1 1 [Kit.bval x] (Kit.new_one wr _ 5) rfl (fun h => by cases h) (Kit.bval_one [x]) (by unfold maxLen; omega) (by omega) (by simp; omega)
          have hb3 : Below wm.heap.size wm w3 := hbt.trans (((Below.refl _ _).alloc zt _).trans ((Below.refl _ _).grown hg3 (by simp; omega) (fun q hq => hown.out.block q hq)))
          have HO3 := Lib.hid ho3
          have HB3 := Lib.hid hb3
          clear ho3 hb3 hg3
          go_wp2_with (at_builtin; refine Kit.app_eq rfl (.tmp 44) (.tmp 50) 40 rfl rfl rfl hr3 ?_)
          go_roundw
          case rel =>
            refine ⟨m + 1, p3, c3, by omega, by go_num, rfl, ?_, HB3.out⟩
            rw [HSTEP.out, List.map_append]; exact HO3
          case measure => simp [intOf]; omega
        · have hms : m = S.length := by have := HSZ.out; omega
          have hfull : S.take m = S := List.take_of_length_le (by omega)
          rw [hfull] at hown
          have B5 : Below w.heap.size w wr := hb.trans (hbt.mono zr)
          have z5 := B5.size
          have SA5 := Lib.hid (SA.out.below hbt)
          have SS5 := Lib.hid hown.out.src
          have HMS := Lib.hid hms
          clear hfull hms hown hbt hb
          go_wp2_with fail
          rw [← HA.out, ← HS.out]
          refine (front_all A S HN.out HALL.out (by omega) (by omega) _).mono ?_
          rintro e w6 ⟨p6, c6, rfl, s6, b6⟩
          have B6 : Below w.heap.size w w6 := B5.trans (b6.mono z5)
          have z6 := B6.size
          have S6 := Lib.hid s6
          have hcA := (SA5.out.below b6).text (P := Try.prog) (src := 40) (dst := 9) (e := 5) (c := c) (n := k) (by rw [List.length_map]; exact HKA.out.symm) Try.underlying40 Try.underlying5 Try.underlying9
          have hcS := (SS5.out.below b6).text (P := Try.prog) (src := 40) (dst := 9) (e := 5) (c := d) (n := m) (by rw [List.length_map]; exact HMS.out.symm) Try.underlying40 Try.underlying5 Try.underlying9
          rw [bs_eq] at hcA hcS
          have SA6 := Lib.hid (SA5.out.below b6)
          have hN2 := nodup_map (· ^^^ t) (xor_inj t) A HN.out
          have hA2 := all_map (· ^^^ t) (xor_inj t) A S
          rw [HALL.out] at hA2
          have hP2 := plcs_map (· ^^^ t) (xor_inj t) S A
          have hl1 : (A.map (· ^^^ t)).length = A.length := List.length_map _
          have hl2 : (S.map (· ^^^ t)).length = S.length := List.length_map _
          obtain ⟨A2, hA2e⟩ : ∃ A2, A.map (· ^^^ t) = A2 := ⟨_, rfl⟩
          obtain ⟨S2, hS2e⟩ : ∃ S2, S.map (· ^^^ t) = S2 := ⟨_, rfl⟩
          have HE2 := Lib.hid hA2e
          rw [hA2e] at hcA hN2 hA2 hP2 hl1
          rw [hS2e] at hcS hA2 hP2 hl2
          have HN2 := Lib.hid hN2
          have HA2 := Lib.hid hA2
          have HP2 := Lib.hid hP2
          have HL1 := Lib.hid hl1
          have HL2 := Lib.hid hl2
          clear s6 b6 B5 z5 SA5 SS5 hN2 hA2 hP2 hl1 hl2 hA2e hS2e
          go_wp2_with fail
          clear hcA hcS
          refine (front_all A2 S2 HN2.out HA2.out (by rw [HL1.out]; omega) (by rw [HL2.out]; omega) _).mono ?_
          rintro e w7 ⟨p7, c7, rfl, s7, b7⟩
          rw [HP2.out] at s7
          have B7 : Below w.heap.size w w7 := B6.trans (b7.mono z6)
          have z7 := B7.size
          have S7 := Lib.hid s7
          have S67 := Lib.hid (S6.out.below b7)
          have SA7 := Lib.hid (SA6.out.below b7)
          clear s7 b7 S6 B6 z6
          go_wp2_with fail
          refine (ints_any _ _ _ _ _ _ ((plcs A S).map fun k : Nat => (k : Int)) ((plcs A S).map fun k : Nat => (k : Int)) (by rw [List.length_map, plcs_length]) (by rw [List.length_map, plcs_length, HL2.out]) (by omega) (by rw [HL2.out]; omega) _ S67.out S7.out).mono ?_
          rintro e w9 ⟨rfl, b9⟩
          rw [decide_eq_true rfl]
          have B9 : Below w.heap.size w w9 := B7.trans (b9.mono z7)
          have z9 := B9.size
          have hcA9 := (SA7.out.below b9).text (P := Try.prog) (src := 40) (dst := 9) (e := 5) (c := c) (n := k) (by rw [List.length_map]; exact HKA.out.symm) Try.underlying40 Try.underlying5 Try.underlying9
          rw [bs_eq, HE2.out] at hcA9
          clear b9 S67 S7 SA7 SA6 B7 z7
          go_wp2_with fail
          clear hcA9
          refine (right_any (bs A2) (by rw [bs_size, HL1.out]; unfold maxLen; omega) _).mono ?_
          rintro e w10 ⟨rfl, b10⟩
          rw [bs_list, right_nodup A2 HN2.out]
          have B10 : Below w.heap.size w w10 := B9.trans (b10.mono z9)
          clear b10 B9 z9
          go_wp2
          go_ret
          exact ⟨rfl, B10⟩

set_option maxRecDepth 100000 in
set_option maxHeartbeats 400000 in
theorem lifted (os : Os) (started : os.Started) (H : Type) (enc : TypeId × Value → H) :
    ReturnsInHanded {} Try.checked os 8 .any (Rows.frontNamesSpec.pre6 enc Try.prog Try.f8 Rows.frontNamesRow.domain false) (Rows.frontNamesSpec.post enc Try.prog Try.f8 false true false false) := by
  refine returnsInHanded_of_change (C := Try.checked) own started (by kernel_rfl) Try.func8
    (ChangeSpec.witness6 (enc := enc) (C := Try.checked) false ⟨#[], #[.string ByteArray.empty, .slice none 0 0, .int .u8 0], []⟩ 8 (by kernel_rfl) (by kernel_rfl) (by kernel_rfl) (by kernel_rfl)) ?_
  intro W base args ds gs before hval0 hW hcnd _
  have hval : ∀ (j : Nat) t v, Try.f8.params[j]? = some t → args[j]? = some v → Value.okWide Try.prog W .any base t v := hval0
  have hW' := hW
  obtain ⟨p, q, hA0, hV, rfl, hfz, hnd⟩ := hW
  have hA : DataW.TrodAll enc Try.prog W 0 (fun _ => true) true Try.f8.params.toList args.toList ds p := hA0
  rw [Try.params8] at hA hval
  obtain ⟨v0, vs0, d0, ds0, p0, q0, hargs, rfl, rfl, h0, r0⟩ := trodAll_cons hA
  obtain ⟨v1, vs1, d1, ds1, p1, q1, rfl, rfl, rfl, h1, r1⟩ := trodAll_cons r0
  obtain ⟨v2, vs2, d2, ds2, p2, q2, rfl, rfl, rfl, h2, r2⟩ := trodAll_cons r1
  obtain ⟨rfl, rfl, rfl⟩ := trodAll_nil r2
  obtain rfl : args = #[v0, v1, v2] := by cases args; simp_all
  obtain ⟨rfl, rfl⟩ := trodVars_none hV
  obtain ⟨a0, rfl, rfl, rfl, w0⟩ := open_string Try.underlying9 (hval 0 9 v0 rfl rfl) h0
  obtain ⟨a1, len1, cap1, rfl⟩ := okWide_slice Try.underlying22 (hval 1 22 v1 rfl rfl)
  have k1 := h1
  have lt1 : ∀ x ∈ p1, x.block < W.heap.size := by obtain ⟨m, hm⟩ := k1; exact DataW.trod_lt m _ _ _ hm
  obtain ⟨z1, w1⟩ : ∃ zs, IsRow .i64 W a1 len1 cap1 zs := by
    obtain ⟨fuel, hf⟩ := h1
    rcases open_ints Try.underlying22 Try.underlying3 (by kernel_rfl) hf with ⟨hcs, _⟩ | ⟨x, l, c, zs, hcs, _, hl, hm, hz, _, hcell, hwz⟩
    · simp [Value.cells] at hcs
      obtain ⟨rfl, rfl, rfl⟩ := hcs
      exact ⟨[], .inl ⟨rfl, rfl, rfl, rfl⟩⟩
    · simp [Value.cells] at hcs
      obtain ⟨rfl, rfl, rfl⟩ := hcs
      exact ⟨zs, .inr ⟨_, rfl, hl, hm, by simpa using hz, hcell, hwz⟩⟩
  obtain ⟨a2, rfl, rfl, rfl, w2⟩ := open_int Try.underlying5 (hval 2 5 v2 rfl rfl) h2
  clear hA0 hval0
  refine (walk a0 a1 len1 cap1 z1 a2 W w0 w1 w2).mono fun e W' ⟨he, bel⟩ => ?_
  subst he
  exact ⟨_, rfl, _, _, _, [], _, [], hW', trodAll_mk1 (shut_bool Try.underlying4 _), (trodAll_cons_mk (shut_string Try.underlying9 w0) (trodAll_cons_mk (Below.trod laidOut (by kernel_rfl) (of_decide_eq_true (by kernel_rfl)) k1 bel lt1) (trodAll_cons_mk (shut_int Try.underlying5 w2) trodAll_mk0))), rfl, bel.frame _, fun h => by cases h⟩

theorem over : Rows.frontNamesRow.holds Try.pinned (OpenSpec.ofChange Rows.frontNamesSpec) :=
  OpenClaim.holds_of_wide 8 Try.f8 rfl rfl rfl rfl rfl rfl rfl ⟨rfl, rfl, rfl, rfl, rfl⟩ rfl rfl rfl rfl rfl (by kernel_rfl) Try.func8 (by kernel_rfl)
    (of_decide_eq_true (by kernel_rfl)) (by unfold Func.isWrapper; first | (rw [if_pos (by decide +kernel)]; kernel_rfl) | (rw [if_neg (by decide +kernel)]; exact ⟨rfl, rfl⟩))
    (fun os started H enc _ => lifted os started H enc)

theorem proved : Rows.FrontNamesSaid := over
#print axioms proved
end Go.Proofs.Ytlanididnlmnhaa.frontNames
