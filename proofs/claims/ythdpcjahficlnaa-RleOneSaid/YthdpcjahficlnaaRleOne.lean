/-
  The law RleOne of chapter 4 returns true: one byte over and over is packed as five bytes for each 255, and as it is, or as five, for the rest; Cut of it, with room for as many, is all of it, and of one fewer is less.
  For every input: no condition.
-/
import Derived.Test.YthdpcjahficlnaaRows
import Derived.Test.YthdpcjahficlnaaRLaws0
import Derived.WalkLawsBesides
import Derived.WalkSpells
import Derived.Lib.Hide
import Derived.Laws.OwnMore
import Derived.WalkKit
import Derived.ProofKit
import Derived.OpenShut
import Derived.ShutString
import Derived.ChangeOld
import Derived.Below
namespace Go.Proofs.Ythdpcjahficlnaa.rleOne
set_option linter.unusedVariables false
open Go.RowKit
open Rle
open Go.ChangeShapes Go.WideShapes Go.ChangeAt Go.RowKit
open Go.ChangeMaps (open_string shut_string)

theorem own : ownKnob Try.prog.godebug = none := by kernel_rfl
theorem laidOut : laidOutB Try.prog = true := by kernel_rfl

theorem byte_of {n : Int} (h0 : 0 ≤ n) (h1 : n ≤ 255) : ∃ t : UInt8, n = (t.toNat : Int) := by
  refine ⟨UInt8.ofNat n.toNat, ?_⟩
  rw [UInt8.toNat_ofNat']; omega
theorem want_le (k : Nat) : want k ≤ k + 5 := by unfold want plen; split <;> omega
theorem all_same (xs : List Value) (k : Nat) (c : UInt8) (h1 : xs.length = k) (h2 : ∀ i, i < k → xs[i]? = some (Kit.bval c)) : xs = (List.replicate k c).map Kit.bval := by
  apply List.ext_getElem?
  intro i
  by_cases h : i < k
  · rw [h2 i h, List.getElem?_map, List.getElem?_replicate, if_pos h]; rfl
  · rw [List.getElem?_eq_none (by omega), List.getElem?_eq_none (by simp; omega)]
set_option maxRecDepth 100000 in
set_option maxHeartbeats 4000000 in
theorem walk (a0 : Int) (a1 : Int) (w : World) (w0 : (Lit.int .u8 a0).wf = true) (w1 : (Lit.int .i64 a1).wf = true) :
    Calls Try.prog 6 #[.int .u8 a0, .int .i64 a1] w fun e w' => e = .returned (.bool true) ∧ Below w.heap.size w w' := by
  obtain ⟨l0, u0⟩ := bounds_u8 w0
  obtain ⟨l1, u1⟩ := bounds_i64 w1
  obtain ⟨c, rfl⟩ := byte_of l0 u0
  obtain ⟨k, hk, cp⟩ := pick_nat a1 2000 l1 u1 (by omega) (by omega) 2000 rfl
  have CP := Lib.hid cp
  clear cp w0 w1
  go_enter Try.func6, Try.ntmps6
  go_wp2_with fail
  refine (awake_any _).mono ?_
  rintro e w1 ⟨rfl, b1⟩
  have z1 := b1.size
  go_wp2_with fail
  refine (CP.out _).mono ?_
  rintro e w2 ⟨rfl, rfl⟩
  obtain ⟨i, hi, hy0, hy1, hy2⟩ := info_parts infoY
  obtain ⟨wD, hmk, howD, hgD⟩ := run_make_full (P := Try.prog) (w := w1) w1.heap.size 36 TY i _ 1 Try.underlying36 hi hy0 hy1 .i64 .i64 k (by rw [hy2]; omega) (by unfold maxLen; omega) (by omega)
  have HOW := Lib.hid howD
  have hbD : Below w.heap.size w wD := b1.trans ((Below.refl _ _).grown hgD z1 (fun k hk => by cases hk))
  obtain ⟨g, hg⟩ : ∃ g, w1.heap.size = g := ⟨_, rfl⟩
  clear howD hgD hi hy0 hy1 hy2
  rw [hg] at hmk HOW z1
  have HGG := Lib.hid hg
  go_wp2
  clear hmk hg
  go_loopw [8] (fun i wr => ∃ (j : Nat) (xs : List Value), j ≤ k ∧ i = .int .i64 j ∧ RowKit.Hid (Kit.Own wr g TY (some ⟨g, 0, none⟩) k k xs) ∧ RowKit.Hid (∀ i, i < j → xs[i]? = some (Kit.bval c)) ∧ Below w.heap.size w wr) (fun i _ => k - (intOf i).toNat)
  case atStart => exact ⟨0, _, by omega, rfl, HOW, Lib.hid (fun i h => absurd h (by omega)), hbD⟩
  case round =>
    obtain ⟨j, xs, hj, rfl, hown, hsame, hb⟩ := hrel
    by_cases hlt : j < k
    · obtain ⟨g2, hg2, _, hgs, _, hcell, hfr⟩ := hown.out.at_ (by omega)
      obtain rfl : g = g2 := by injection hg2 with h; injection h
      have hl := hown.out.len
      have hcj := hcell j hlt
      obtain ⟨v, hv⟩ : ∃ v, xs[j]? = some v := ⟨_, List.getElem?_eq_getElem (by omega)⟩
      rw [hv] at hcj
      have hfj := hfr j
      have hset := hown.out.set j (Kit.bval c) hlt
      have hs2 : ∀ i, i < j + 1 → (xs.set j (Kit.bval c))[i]? = some (Kit.bval c) := by
        intro i hi
        by_cases h : i = j
        · subst h; rw [List.getElem?_set_self (by omega)]
        · rw [List.getElem?_set_ne (by omega)]; exact hsame.out i (by omega)
      have HSET := Lib.hid hset
      have HS2 := Lib.hid hs2
      have i0 : (0 : Int) ≤ (j : Int) := by omega
      have i1 : (j : Int) < (k : Int) := by omega
      clear hg2 hcell hfr hl hv hset hs2
      go_wp2
      go_roundw
      case rel => exact ⟨j + 1, _, by omega, by go_num, HSET, HS2, hb.setCell (p := ⟨g, j, none⟩) z1 _⟩
      case measure => simp [intOf]; omega
    · obtain rfl : j = k := by omega
      have hx := all_same xs j c hown.out.len hsame.out
      have hsrc := hown.out.src
      rw [hx] at hsrc
      have hcv := Kit.Src.text (P := Try.prog) (src := 36) (dst := 9) (e := 5) (n := j) (c := j) hsrc (by rw [List.length_replicate]) Try.underlying36 Try.underlying5 Try.underlying9
      obtain ⟨s, hs⟩ : ∃ s, bs (List.replicate j c) = s := ⟨_, rfl⟩
      rw [bs_eq, hs] at hcv
      have hsl : s.data.toList = List.replicate j c := by rw [← hs, bs_list]
      have hss : s.size ≤ 2000 := by rw [← hs, bs_size, List.length_replicate]; omega
      obtain ⟨W, hW⟩ : ∃ W, want j = W := ⟨_, rfl⟩
      have hWl : W ≤ j + 5 := by rw [← hW]; exact want_le j
      obtain ⟨d, hd⟩ : ∃ d : Nat, (j : Int) / 255 = (d : Int) := ⟨j / 255, by omega⟩
      obtain ⟨r, hr⟩ : ∃ r : Nat, (j : Int) % 255 = (r : Int) := ⟨j % 255, by omega⟩
      have hr1 : r < 255 := by omega
      have hd1 : d ≤ 8 := by omega
      have hWe : W = 5 * d + plen r := by
        rw [← hW]; unfold want
        rw [show j / 255 = d from by omega, show j % 255 = r from by omega]
      have CL := Lib.hid (length_lit s (W : Int) (by omega) (by rw [hsl, Len_one, hW]))
      obtain ⟨pp, hpp⟩ : ∃ pp, bs (pack s.data.toList) = pp := ⟨_, rfl⟩
      have hps : pp.size = W := by rw [← hpp, bs_size, hsl]; show Len _ = W; rw [Len_one, hW]
      have CPK := Lib.hid (pack_lit s pp (by omega) hpp)
      have CC := Lib.hid (cut_lit s (W : Int) (j : Int) (by omega) (by omega) (by omega) (by rw [cut_all _ _ (by rw [hsl, Len_one, hW]; exact Int.le_refl _), hsl, List.length_replicate]))
      have hcut2 : 0 < j → ∃ q : Nat, q < j ∧ cut s.data.toList ((W : Int) - 1) = q := by
        intro h0
        have hW1 : 1 ≤ W := by
          rw [hWe]; unfold plen; split <;> omega
        refine ⟨_, ?_, rfl⟩
        obtain ⟨c1, c2, c3⟩ := cut_spec s.data.toList ((W : Int) - 1) (by omega)
        rcases Nat.lt_or_ge (cut s.data.toList ((W : Int) - 1)) j with h | h
        · exact h
        · exfalso
          rw [hsl, List.take_of_length_le (by rw [List.length_replicate, ← hsl]; exact h), Len_one, hW] at c2
          omega
      have HC2 := Lib.hid hcut2
      have zb := hb.size
      have HWE := Lib.hid hWe
      have hWl2 : W ≤ 2005 := by omega
      clear hcut2 hx hsrc hs hsl hW hpp hown hsame hWe hWl CP
      by_cases hj0 : j = 0
      · have hW0 : W = 0 := by
          rw [HWE.out, show d = 0 from by omega, show r = 0 from by omega]; rfl
        subst hj0 hW0
        have hr0 : r = 0 := by omega
        have hd0 : d = 0 := by omega
        subst hr0 hd0
        have cl := CL.out
        have cc := CC.out
        rw [show ((0 : Nat) : Int) = 0 from rfl] at cl cc
        have CL0 := Lib.hid cl
        have CC0 := Lib.hid cc
        clear cl cc
        go_wp2_with fail
        refine (CL0.out _).mono ?_
        rintro e w3 ⟨rfl, b3⟩
        have B3 : Below w.heap.size w w3 := hb.trans (b3.mono zb)
        have z3 := B3.size
        clear b3
        go_wp2_with fail
        refine (CPK.out _).mono ?_
        rintro e w4 ⟨rfl, b4⟩
        have B4 : Below w.heap.size w w4 := B3.trans (b4.mono z3)
        have z4 := B4.size
        clear B3 b4 z3
        go_wp2_with fail
        refine (CC0.out _).mono ?_
        rintro e w5 ⟨rfl, b5⟩
        have B5 : Below w.heap.size w w5 := B4.trans (b5.mono z4)
        have z5 := B5.size
        clear B4 b5 z4
        go_wp2
        go_ret
        exact ⟨rfl, B5⟩
      · have hne : ((j : Int) == 0) = false := by simpa using hj0
        obtain ⟨q, hq, hqe⟩ := HC2.out (by omega)
        have CQ := Lib.hid (cut_lit s ((W : Int) - 1) (q : Int) (by omega) (by omega) (by omega) (by rw [hqe]))
        have hW1 : 1 ≤ W := by
          rw [HWE.out]; unfold plen; split <;> omega
        have hways : ((r : Int) ≤ 3 ∧ 5 * (d : Int) + (r : Int) = (W : Int)) ∨ (¬ (r : Int) ≤ 3 ∧ 5 * (d : Int) + 5 = (W : Int)) := by
          rw [HWE.out]; unfold plen; split
          · exact .inl ⟨by omega, by omega⟩
          · exact .inr ⟨by omega, by omega⟩
        clear hqe hj0
        rcases hways with ⟨h3, hw⟩ | ⟨h3, hw⟩
        all_goals
          go_wp2_with fail
          refine (CL.out _).mono ?_
          rintro e w3 ⟨rfl, b3⟩
          have B3 : Below w.heap.size w w3 := hb.trans (b3.mono zb)
          have z3 := B3.size
          clear b3
          go_wp2_with fail
          refine (CPK.out _).mono ?_
          rintro e w4 ⟨rfl, b4⟩
          have B4 : Below w.heap.size w w4 := B3.trans (b4.mono z3)
          have z4 := B4.size
          clear B3 b4 z3
          go_wp2_with fail
          refine (CC.out _).mono ?_
          rintro e w5 ⟨rfl, b5⟩
          have B5 : Below w.heap.size w w5 := B4.trans (b5.mono z4)
          have z5 := B5.size
          clear B4 b5 z4
          go_wp2_with fail
          refine (CQ.out _).mono ?_
          rintro e w6 ⟨rfl, b6⟩
          have B6 : Below w.heap.size w w6 := B5.trans (b6.mono z5)
          clear B5 b6 z5
          go_wp2
          go_ret
          exact ⟨rfl, B6⟩

set_option maxRecDepth 100000 in
set_option maxHeartbeats 400000 in
theorem lifted (os : Os) (started : os.Started) (H : Type) (enc : TypeId × Value → H) :
    ReturnsInHanded {} Try.checked os 6 .any (Rows.rleOneSpec.pre6 enc Try.prog Try.f6 Rows.rleOneRow.domain false) (Rows.rleOneSpec.post enc Try.prog Try.f6 false true false false) := by
  refine returnsInHanded_of_change (C := Try.checked) own started (by kernel_rfl) Try.func6
    (ChangeSpec.witness6 (enc := enc) (C := Try.checked) false ⟨#[], #[.int .u8 0, .int .i64 0], []⟩ 8 (by kernel_rfl) (by kernel_rfl) (by kernel_rfl) (by kernel_rfl)) ?_
  intro W base args ds gs before hval0 hW hcnd _
  have hval : ∀ (j : Nat) t v, Try.f6.params[j]? = some t → args[j]? = some v → Value.okWide Try.prog W .any base t v := hval0
  have hW' := hW
  obtain ⟨p, q, hA0, hV, rfl, hfz, hnd⟩ := hW
  have hA : DataW.TrodAll enc Try.prog W 0 (fun _ => true) true Try.f6.params.toList args.toList ds p := hA0
  rw [Try.params6] at hA hval
  obtain ⟨v0, vs0, d0, ds0, p0, q0, hargs, rfl, rfl, h0, r0⟩ := trodAll_cons hA
  obtain ⟨v1, vs1, d1, ds1, p1, q1, rfl, rfl, rfl, h1, r1⟩ := trodAll_cons r0
  obtain ⟨rfl, rfl, rfl⟩ := trodAll_nil r1
  obtain rfl : args = #[v0, v1] := by cases args; simp_all
  obtain ⟨rfl, rfl⟩ := trodVars_none hV
  obtain ⟨a0, rfl, rfl, rfl, w0⟩ := open_int Try.underlying5 (hval 0 5 v0 rfl rfl) h0
  obtain ⟨a1, rfl, rfl, rfl, w1⟩ := open_int Try.underlying3 (hval 1 3 v1 rfl rfl) h1
  clear hA0 hval0
  refine (walk a0 a1 W w0 w1).mono fun e W' ⟨he, bel⟩ => ?_
  subst he
  exact ⟨_, rfl, _, _, _, [], _, [], hW', trodAll_mk1 (shut_bool Try.underlying4 _), (trodAll_cons_mk (shut_int Try.underlying5 w0) (trodAll_cons_mk (shut_int Try.underlying3 w1) trodAll_mk0)), rfl, bel.frame _, fun h => by cases h⟩

theorem over : Rows.rleOneRow.holds Try.pinned (OpenSpec.ofChange Rows.rleOneSpec) :=
  OpenClaim.holds_of_wide 6 Try.f6 rfl rfl rfl rfl rfl rfl rfl ⟨rfl, rfl, rfl, rfl, rfl⟩ rfl rfl rfl rfl rfl (by kernel_rfl) Try.func6 (by kernel_rfl)
    (of_decide_eq_true (by kernel_rfl)) (by unfold Func.isWrapper; first | (rw [if_pos (by decide +kernel)]; kernel_rfl) | (rw [if_neg (by decide +kernel)]; exact ⟨rfl, rfl⟩))
    (fun os started H enc _ => lifted os started H enc)

theorem proved : Rows.RleOneSaid := over
#print axioms proved
end Go.Proofs.Ythdpcjahficlnaa.rleOne
