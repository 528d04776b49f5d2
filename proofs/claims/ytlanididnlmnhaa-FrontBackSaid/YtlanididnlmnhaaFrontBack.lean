/-
  The law FrontBack of chapter 5 returns true: Back undoes Front, and Front Back, by any alphabet.
  For every input: no condition.
-/
import Derived.Test.YtlanididnlmnhaaRows
import Derived.Test.YtlanididnlmnhaaFLaws0
import Derived.WalkLawsBesides
import Derived.WalkSpells
import Derived.Lib.Hide
import Derived.WalkKit
import Derived.ProofKit
import Derived.OpenShut
import Derived.ShutString
import Derived.ChangeOld
import Derived.Below
namespace Go.Proofs.Ytlanididnlmnhaa.frontBack
set_option linter.unusedVariables false
open Go.RowKit
open Front
open Go.ChangeShapes Go.WideShapes Go.ChangeAt Go.RowKit
open Go.ChangeMaps (open_string shut_string)

theorem own : ownKnob Try.prog.godebug = none := by kernel_rfl
theorem laidOut : laidOutB Try.prog = true := by kernel_rfl

/-- A slice of integers that came in. -/
def IsRow (k : IntKind) (w : World) (a : Option Addr) (len cap : Nat) (zs : List Int) : Prop :=
  (a = none ∧ len = 0 ∧ cap = 0 ∧ zs = []) ∨
  ∃ x, a = some x ∧ len ≤ cap ∧ cap ≤ maxLen ∧ zs.length = cap ∧ (∀ i, i < zs.length → w.cell? (x.add i) = some (.int k (zs.getD i 0))) ∧ ∀ n ∈ zs, (Lit.int k n).wf = true

set_option maxRecDepth 100000 in
set_option maxHeartbeats 1000000 in
theorem walk (a0 : ByteArray) (a1 : Option Addr) (len1 cap1 : Nat) (z1 : List Int) (w : World) (w0 : a0.size ≤ maxLen) (w1 : IsRow .i64 w a1 len1 cap1 z1) :
    Calls Try.prog 4 #[.string a0, .slice a1 len1 cap1] w fun e w' => e = .returned (.bool true) ∧ Below w.heap.size w w' := by
  obtain ⟨l, hl, hlm, hlc, hcm, hnone, hsrc, hbd⟩ := ints_of w1
  clear w1
  have HL := Lib.hid hl
  have HSRC := Lib.hid hsrc
  have HBD := Lib.hid hbd
  have HLM := Lib.hid hlm
  have hs0 : a0.size ≤ maxLen := w0
  unfold maxLen at hlm
  clear hl hsrc hbd w0 hcm hnone hlc
  go_enter Try.func4, Try.ntmps4
  go_wp2_with fail
  refine (awake_any _).mono ?_
  rintro e w1 ⟨rfl, b1⟩
  go_wp2_with fail
  refine (alphabet_any _ hs0 _).mono ?_
  rintro e w2 ⟨rfl, rfl⟩
  obtain ⟨A, hA⟩ : ∃ A, alpha a0.data.toList = A := ⟨_, rfl⟩
  have hnod : A.Nodup := by rw [← hA]; exact alpha_nodup _
  have hlen : A.length ≤ 30 := by rw [← hA]; exact alpha_len _
  rw [hA]
  clear hA
  have S1 := Lib.hid (HSRC.out.below b1)
  go_wp2_with fail
  refine (text_any (bs A) (by rw [bs_size]; omega) _ _ _ l HL.out 200 (by omega) HLM.out _ S1.out HBD.out).mono ?_
  rintro e w3 ⟨rfl, rfl⟩
  rw [bs_list]
  obtain ⟨S, hS⟩ : ∃ S, text A (l.take 200) = S := ⟨_, rfl⟩
  have hall : all A S = true := by rw [← hS]; exact text_all _ _
  have hSl : S.length ≤ 200 := by rw [← hS, text_len]; have := picks_le A (l.take 200); rw [List.length_take] at this; omega
  rw [hS]
  have HN := Lib.hid hnod
  have HA := Lib.hid hall
  have HS := Lib.hid hS
  clear hnod hall hS
  have z1 := b1.size
  go_wp2_with fail
  refine (front_all A S HN.out HA.out (by omega) (by omega) _).mono ?_
  rintro e w4 ⟨p4, c4, rfl, s4, b4⟩
  have B4 : Below w.heap.size w w4 := b1.trans (b4.mono z1)
  have z4 := B4.size
  have S4 := Lib.hid s4
  clear s4 b4 b1 z1
  go_wp2_with fail
  refine (back_all A (plcs A S) _ _ _ HN.out (plcs_lt S A HA.out) (by omega) (plcs_length A S) (by omega) _ S4.out).mono ?_
  rintro e w5 ⟨rfl, b5⟩
  rw [unp_plcs S A HA.out]
  have B5 : Below w.heap.size w w5 := B4.trans (b5.mono z4)
  have z5 := B5.size
  clear B4 b5 z4 S1 S4
  have hie := list_empty A
  go_wp2
  go_loopw [12, 13] (fun v i wr => ∃ (k m : Nat) (p : Option Addr) (c : Nat), k ≤ len1 ∧ k ≤ 200 ∧ i = .int .i64 k ∧ v = .slice p m c ∧ RowKit.Hid (m = (picks A (l.take k)).length) ∧ m ≤ 200 ∧ RowKit.Hid (Kit.Own wr w.heap.size 3 p m c ((picks A (l.take k)).map ival)) ∧ Below w.heap.size w wr) (fun _ i _ => len1 - (intOf i).toNat)
  case atStart => exact ⟨0, 0, none, 0, by omega, by omega, rfl, rfl, by unfold picks; split <;> rfl, by omega, by unfold picks; split <;> exact Kit.Own.start _ _ _, B5⟩
  case round =>
    obtain ⟨k, m, p, c, hk, hk2, rfl, rfl, hm, hm2, hown, hb⟩ := hrel
    by_cases hc : k < len1 ∧ k < 200 ∧ ¬ A = []
    · obtain ⟨hc1, hc2, hc3⟩ := hc
      have hpos : 0 < A.length := List.length_pos_iff.2 hc3
      rw [decide_eq_false hc3] at hie
      have hkl : k < l.length := by rw [HL.out]; exact hc1
      obtain ⟨b0, off, rfl, hbl, hcell⟩ := src_at HSRC.out k hkl
      have hcw : _ := hb.cell (p := ⟨b0, off + k, none⟩) hbl
      rw [hcell] at hcw
      obtain ⟨l1, l2⟩ := HBD.out _ (List.getElem_mem hkl)
      obtain ⟨q, hq⟩ : ∃ q : Nat, pk l[k] (A.length : Int) = (q : Int) := Int.eq_ofNat_of_zero_le (pk_lo l[k] (A.length : Int) (by omega))
      have hp1 : picks A (l.take (k + 1)) = picks A (l.take k) ++ [q] := by
        rw [List.take_succ_eq_append_getElem hkl, picks_snoc _ _ _ hc3, hq]; rfl
      have HP1 := Lib.hid hp1
      have HQ := Lib.hid hq
      clear hp1 hq hc3 hcell
      obtain ⟨x, hx⟩ : ∃ x, l[k] = x := ⟨_, rfl⟩
      rw [hx] at hcw l1 l2 HQ
      clear hx
      have hbA := bs_size A
      have zr := hb.size
      have hme := hm.out
      have hown2 := hown.out
      rw [hme] at hown2
      obtain ⟨p3, c3, w3, hr3, ho3, hg3⟩ := Kit.Own.app (ty := 22) (w := wr.alloc (.cells #[.int .i64 (q : Int)] 3)) one_int (hown.out.alloc _) (some ⟨wr.heap.size, 0, none⟩) 1 1 [ival q] (Kit.new_one wr _ 3) rfl (fun h => by cases h) (ival_one [q]) (by unfold maxLen; omega) (by omega) (by simp; omega)
      have hb3 : Below w.heap.size w w3 := hb.trans (((Below.refl _ _).alloc zr _).trans ((Below.refl _ _).grown hg3 (by simp; omega) (fun q hq => hown.out.block q hq)))
      have hmk : m ≤ k := by rw [hme]; have := picks_le A (l.take k); rw [List.length_take] at this; omega
      have HO3 := Lib.hid ho3
      have HB3 := Lib.hid hb3
      clear ho3 hb3 hg3 hown2 hme
      go_wp2_with fail
      refine (pick_any x (A.length : Int) _ l1 l2 (by omega) (by omega)).mono ?_
      rintro e w7 ⟨rfl, rfl⟩
      rw [HQ.out]
      clear hbA
      go_wp2_with (at_builtin; refine Kit.app_eq rfl (.tmp 50) (.tmp 58) 22 rfl rfl rfl hr3 ?_)
      go_roundw
      case rel =>
        refine ⟨k + 1, m + 1, p3, c3, by omega, by omega, by go_num, rfl, ?_, by omega, ?_, HB3.out⟩
        · rw [HP1.out, List.length_append, ← hm.out]; exact Lib.hid rfl
        · rw [HP1.out, List.map_append]; exact HO3
      case measure => simp [intOf]; omega
    · have hP : picks A (l.take 200) = picks A (l.take k) := by
        by_cases hc3 : A = []
        · rw [hc3, picks_nil, picks_nil]
        · by_cases hc1 : k < len1
          · have hc4 : ¬ k < 200 := fun h => hc ⟨hc1, h, hc3⟩
            rw [show (200 : Nat) = k from by omega]
          · rw [List.take_of_length_le (by rw [HL.out]; omega), List.take_of_length_le (by rw [HL.out]; omega)]
      obtain ⟨P, hPe⟩ : ∃ P, picks A (l.take k) = P := ⟨_, rfl⟩
      have hPlt : ∀ k ∈ P, k < A.length := by rw [← hPe]; exact picks_lt A _
      rw [hPe] at hm hown
      have h3 : ¬ k < len1 ∨ (k < len1 ∧ ¬ k < 200) ∨ (k < len1 ∧ k < 200 ∧ A = []) := by
        by_cases h1 : k < len1
        · by_cases h2 : k < 200
          · by_cases h4 : A = []
            · exact .inr (.inr ⟨h1, h2, h4⟩)
            · exact absurd ⟨h1, h2, h4⟩ hc
          · exact .inr (.inl ⟨h1, h2⟩)
        · exact .inl h1
      have HPL := Lib.hid hPlt
      have hUall := all_unp P A hPlt
      have hUP := plcs_unp P A HN.out hPlt
      have hUl := unp_length P A
      obtain ⟨U, hU⟩ : ∃ U, unp A P = U := ⟨_, rfl⟩
      rw [hU] at hUall hUP hUl
      have HU := Lib.hid hU
      have HUA := Lib.hid hUall
      have HUP := Lib.hid hUP
      have HUL := Lib.hid hUl
      have zb := hb.size
      clear hP hPe hPlt hc hUall hUP hUl hU
      rcases h3 with h | ⟨h, h'⟩ | ⟨h, h', h''⟩
      all_goals
        try rw [decide_eq_true h''] at hie
        try have H'' := Lib.hid h''
        try clear h''
        go_wp2_with fail
        refine (back_all A P _ _ _ HN.out HPL.out (by omega) hm.out.symm (by omega) _ (by rw [ints_one]; exact hown.out.src)).mono ?_
        rintro e w7 ⟨rfl, b7⟩
        rw [HU.out]
        have B7 : Below w.heap.size w w7 := hb.trans (b7.mono zb)
        have z7 := B7.size
        have S7 := Lib.hid (hown.out.src.below b7)
        clear b7
        go_wp2_with fail
        refine (front_all A U HN.out HUA.out (by omega) (by have := HUL.out; have := hm.out; omega) _).mono ?_
        rintro e w8 ⟨p8, c8, rfl, s8, b8⟩
        rw [HUP.out] at s8
        rw [HUL.out]
        have B8 : Below w.heap.size w w8 := B7.trans (b8.mono z7)
        have z8 := B8.size
        have S8 := Lib.hid s8
        have S9 := Lib.hid (S7.out.below b8)
        clear s8 b8
        go_wp2_with fail
        refine (ints_any _ _ _ _ _ _ (P.map fun k : Nat => (k : Int)) (P.map fun k : Nat => (k : Int)) (by rw [List.length_map]) (by rw [List.length_map]; exact hm.out.symm) (by have := hm.out; omega) (by omega) _ S8.out (by rw [ints_one]; exact S9.out)).mono ?_
        rintro e w9 ⟨rfl, b9⟩
        rw [decide_eq_true rfl]
        have B9 : Below w.heap.size w w9 := B8.trans (b9.mono z8)
        clear b9
        have hss := bs_size S
        go_wp2
        go_ret
        exact ⟨rfl, B9⟩

set_option maxRecDepth 100000 in
set_option maxHeartbeats 400000 in
theorem lifted (os : Os) (started : os.Started) (H : Type) (enc : TypeId × Value → H) :
    ReturnsInHanded {} Try.checked os 4 .any (Rows.frontBackSpec.pre6 enc Try.prog Try.f4 Rows.frontBackRow.domain false) (Rows.frontBackSpec.post enc Try.prog Try.f4 false true false false) := by
  refine returnsInHanded_of_change (C := Try.checked) own started (by kernel_rfl) Try.func4
    (ChangeSpec.witness6 (enc := enc) (C := Try.checked) false ⟨#[], #[.string ByteArray.empty, .slice none 0 0], []⟩ 8 (by kernel_rfl) (by kernel_rfl) (by kernel_rfl) (by kernel_rfl)) ?_
  intro W base args ds gs before hval0 hW hcnd _
  have hval : ∀ (j : Nat) t v, Try.f4.params[j]? = some t → args[j]? = some v → Value.okWide Try.prog W .any base t v := hval0
  have hW' := hW
  obtain ⟨p, q, hA0, hV, rfl, hfz, hnd⟩ := hW
  have hA : DataW.TrodAll enc Try.prog W 0 (fun _ => true) true Try.f4.params.toList args.toList ds p := hA0
  rw [Try.params4] at hA hval
  obtain ⟨v0, vs0, d0, ds0, p0, q0, hargs, rfl, rfl, h0, r0⟩ := trodAll_cons hA
  obtain ⟨v1, vs1, d1, ds1, p1, q1, rfl, rfl, rfl, h1, r1⟩ := trodAll_cons r0
  obtain ⟨rfl, rfl, rfl⟩ := trodAll_nil r1
  obtain rfl : args = #[v0, v1] := by cases args; simp_all
  obtain ⟨rfl, rfl⟩ := trodVars_none hV
  obtain ⟨a0, rfl, rfl, rfl, w0⟩ := open_string Try.underlying9 (hval 0 9 v0 rfl rfl) h0
  obtain ⟨a1, len1, cap1, rfl⟩ := okWide_slice Try.underlying22 (hval 1 22 v1 rfl rfl)
  have k1 := h1
  have lt1 : ∀ x ∈ p1, x.block < W.heap.size := by obtain ⟨m, hm⟩ := k1; exact DataW.trod_lt m _ _ _ hm
  obtain ⟨z1, w1⟩ : ∃ zs, IsRow .i64 W a1 len1 cap1 zs := by
    obtain ⟨fuel, hf⟩ := h1
    rcases open_ints Try.underlying22 Try.underlying3 (by kernel_rfl) hf with ⟨hcs, _⟩ | ⟨x, l, c, zs, hcs, _, hl, hm, hz, _, hcell, hwz⟩
    · simp [Value.cells] at hcs
      obtain ⟨rfl, rfl, rfl⟩ := hcs
      exact ⟨[], .inl ⟨rfl, rfl, rfl, rfl⟩⟩
    · simp [Value.cells] at hcs
      obtain ⟨rfl, rfl, rfl⟩ := hcs
      exact ⟨zs, .inr ⟨_, rfl, hl, hm, by simpa using hz, hcell, hwz⟩⟩
  clear hA0 hval0
  refine (walk a0 a1 len1 cap1 z1 W w0 w1).mono fun e W' ⟨he, bel⟩ => ?_
  subst he
  exact ⟨_, rfl, _, _, _, [], _, [], hW', trodAll_mk1 (shut_bool Try.underlying4 _), (trodAll_cons_mk (shut_string Try.underlying9 w0) (trodAll_cons_mk (Below.trod laidOut (by kernel_rfl) (of_decide_eq_true (by kernel_rfl)) k1 bel lt1) trodAll_mk0)), rfl, bel.frame _, fun h => by cases h⟩

theorem over : Rows.frontBackRow.holds Try.pinned (OpenSpec.ofChange Rows.frontBackSpec) :=
  OpenClaim.holds_of_wide 4 Try.f4 rfl rfl rfl rfl rfl rfl rfl ⟨rfl, rfl, rfl, rfl, rfl⟩ rfl rfl rfl rfl rfl (by kernel_rfl) Try.func4 (by kernel_rfl)
    (of_decide_eq_true (by kernel_rfl)) (by unfold Func.isWrapper; first | (rw [if_pos (by decide +kernel)]; kernel_rfl) | (rw [if_neg (by decide +kernel)]; exact ⟨rfl, rfl⟩))
    (fun os started H enc _ => lifted os started H enc)

theorem proved : Rows.FrontBackSaid := over
#print axioms proved
end Go.Proofs.Ytlanididnlmnhaa.frontBack
