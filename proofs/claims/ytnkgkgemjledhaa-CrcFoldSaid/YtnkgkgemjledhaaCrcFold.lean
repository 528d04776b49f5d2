/-
  The law CrcFold of chapter 3 returns true: Unfold undoes Fold, and Fold Unfold; All with one more is Fold of All; lists unlike in one place have unlike sums.
  For every input: no condition.
-/
import Derived.Test.YtnkgkgemjledhaaRows
import Derived.Test.YtnkgkgemjledhaaLaws0
import Derived.Test.YtnkgkgemjledhaaOwn
import Derived.WalkLawsBesides
import Derived.WalkSpells
import Derived.Lib.Hide
import Derived.WalkKit
import Derived.ProofKit
import Derived.OpenShut
import Derived.ShutString
import Derived.ChangeOld
import Derived.Below
namespace Go.Proofs.Ytnkgkgemjledhaa.crcFold
set_option linter.unusedVariables false
open Go.RowKit
open Crc
open Go.ChangeShapes Go.WideShapes Go.ChangeAt Go.RowKit
open Go.ChangeMaps (open_string shut_string)

theorem own : ownKnob Try.prog.godebug = none := by kernel_rfl
theorem laidOut : laidOutB Try.prog = true := by kernel_rfl

/-- A slice of integers that came in. -/
def IsRow (k : IntKind) (w : World) (a : Option Addr) (len cap : Nat) (zs : List Int) : Prop :=
  (a = none ∧ len = 0 ∧ cap = 0 ∧ zs = []) ∨
  ∃ x, a = some x ∧ len ≤ cap ∧ cap ≤ maxLen ∧ zs.length = cap ∧ (∀ i, i < zs.length → w.cell? (x.add i) = some (.int k (zs.getD i 0))) ∧ ∀ n ∈ zs, (Lit.int k n).wf = true

set_option maxRecDepth 100000 in
set_option maxHeartbeats 1000000 in
theorem walk (a0 : Option Addr) (len0 cap0 : Nat) (z0 : List Int) (a1 : Int) (a2 : Int) (a3 : Int) (w : World) (w0 : IsRow .u32 w a0 len0 cap0 z0) (w1 : (Lit.int .u32 a1).wf = true) (w2 : (Lit.int .u32 a2).wf = true) (w3 : (Lit.int .i64 a3).wf = true) :
    Calls Try.prog 7 #[.slice a0 len0 cap0, .int .u32 a1, .int .u32 a2, .int .i64 a3] w fun e w' => e = .returned (.bool true) ∧ Below w.heap.size w w' := by
  obtain ⟨l1, l2⟩ := bounds_u32 w1
  obtain ⟨l3, l4⟩ := bounds_u32 w2
  obtain ⟨l5, l6⟩ := bounds_i64 w3
  obtain ⟨c, rfl⟩ := U_of a1 (by omega) (by omega)
  obtain ⟨d, rfl⟩ := U_of a2 (by omega) (by omega)
  clear w1 w2 w3
  obtain ⟨l, hl, hcl, hrow, hcap, hnone⟩ : ∃ l : List (BitVec 32), l.length = cap0 ∧ len0 ≤ cap0 ∧ (∀ m, m ≤ cap0 → Row w a0 (l.take m)) ∧ cap0 ≤ maxLen ∧ (a0 = none → len0 = 0 ∧ cap0 = 0) := by
    rcases w0 with ⟨rfl, rfl, rfl, rfl⟩ | ⟨x, rfl, hl, hm, hz, hcell, hwz⟩
    · exact ⟨[], rfl, by omega, fun m _ => .inl (by simp), by decide, fun _ => ⟨rfl, rfl⟩⟩
    · obtain ⟨l, h1, h2⟩ := row_of w x z0 hcell hwz
      exact ⟨l, by omega, hl, fun m _ => h2 m, hm, fun h => by cases h⟩
  unfold maxLen at hcap
  clear w0
  have HL := Lib.hid hl
  have HR := Lib.hid hrow
  have HN := Lib.hid hnone
  clear hl hrow hnone
  have hfu := unfold_fold c d
  have huf := fold_unfold c d
  obtain ⟨M, hmin, hM1, hM2, HM⟩ := Kit.cut_len len0 40 40 rfl
  obtain ⟨L, HLen, HRow, HX⟩ : ∃ (L : List (BitVec 32)), Hid (L.length = M) ∧ Hid (Row w a0 L) ∧ Hid (a0 = none → M = 0 ∧ cap0 = 0) := by
    refine ⟨l.take M, ?_, HR.out _ (by omega), fun h => ?_⟩
    · show (l.take M).length = _
      rw [List.length_take, HL.out]; omega
    · have := HN.out h; omega
  have hmc : M ≤ cap0 := by omega
  go_enter Try.func7, Try.ntmps7
  go_wp2_with fail
  refine (awake_any _).mono ?_
  rintro e w1 ⟨rfl, b1⟩
  go_wp2_with fail
  refine (all_any _ a0 _ cap0 L HLen.out (by unfold maxLen; omega) (HRow.out.below b1)).mono ?_
  rintro e w2 ⟨rfl, rfl⟩
  go_wp2_with fail
  refine (fold_any _ _ _).mono ?_
  rintro e w3 ⟨rfl, rfl⟩
  go_wp2_with fail
  refine (unfold_any _ _ _).mono ?_
  rintro e w4 ⟨rfl, rfl⟩
  go_wp2_with fail
  refine (unfold_any _ _ _).mono ?_
  rintro e w4 ⟨rfl, rfl⟩
  go_wp2_with fail
  refine (fold_any _ _ _).mono ?_
  rintro e w4 ⟨rfl, rfl⟩
  have z1 := b1.size
  obtain ⟨a5, c5, w5, hr5, ho5, hg5⟩ := Kit.Own.app (ty := 23) one32 (Kit.Own.start w1 w.heap.size 22) a0 _ cap0 (L.map val) (HRow.out.below b1).src (by rw [List.length_map]; exact HLen.out) HX.out (val_one _) (by unfold maxLen; omega) (by omega) z1
  simp only [Nat.zero_add, List.nil_append] at hr5 ho5
  have b5 := Kit.grown_below hg5 z1 (by intro k hk; cases hk)
  have z5 : w.heap.size ≤ w5.heap.size := Nat.le_trans z1 b5.size
  obtain ⟨a6, c6, w6, hr6, ho6, hg6⟩ := Kit.Own.app (ty := 23) (w := w5.alloc (.cells #[.int .u32 (U c)] 22)) one32 (ho5.alloc _) (some ⟨w5.heap.size, 0, none⟩) 1 1 ([c].map val) (by
    intro j u hu
    match j, hu with
    | 0, hu => exact ⟨_, _, rfl, by simp at hu; subst hu; simp [val]⟩) rfl (fun h => by cases h) (val_one _) (by unfold maxLen; omega) (by omega) (by simp; omega)
  rw [← List.map_append] at ho6
  have b6 := Kit.grown_below hg6 (by simp; omega) ho5.block
  have B6 : Below w.heap.size w w6 := (b1.trans b5).trans (((Below.refl _ _).alloc z5 _).trans b6)
  have r6 := row_src ho6.src
  have H6 := Lib.hid r6
  have HO6 := Lib.hid ho6
  have hmore := all_more L c
  clear r6 ho6 hg6 hg5 b6 b5
  go_wp2_with (first | (at_builtin; refine Kit.app_eq rfl (.const (.slice none 0 0)) (.tmp 39) 23 rfl rfl rfl hr5 ?_) | (at_builtin; refine Kit.app_eq rfl (.tmp 40) (.tmp 42) 23 rfl rfl rfl hr6 ?_))
  refine (all_any _ a6 _ c6 (L ++ [c]) (by rw [List.length_append, HLen.out]; rfl) (by unfold maxLen; omega) H6.out).mono ?_
  rintro e w7 ⟨rfl, rfl⟩
  clear hr5 hr6
  go_wp2_with fail
  refine (fold_any _ _ _).mono ?_
  rintro e w7 ⟨rfl, rfl⟩
  clear hmore hfu huf
  have z6 := B6.size
  by_cases hM0 : M = 0
  · have hL0 : L = [] := List.eq_nil_of_length_eq_zero (by rw [HLen.out]; exact hM0)
    have h0 : U (all L) = 0 := by rw [hL0]; exact U_num 0 _ (by decide +kernel)
    have hb0 : (U (all L) == 0) = true := by rw [h0]; rfl
    have hM0' : ((M : Int) == 0) = true := by rw [hM0]; rfl
    clear hM0 hL0 h0
    go_wp2
    go_ret
    exact ⟨rfl, B6⟩
  · have hM0' : ((M : Int) == 0) = false := by simpa using hM0
    have hMp : 1 ≤ (M : Int) := by omega
    have HM0 := Lib.hid hM0
    clear hM0
    obtain ⟨a8, c8, w8, hr8, ho8, hg8⟩ := Kit.Own.app (ty := 23) one32 (Kit.Own.start w6 w.heap.size 22) a0 _ cap0 (L.map val) (HRow.out.below B6).src (by rw [List.length_map]; exact HLen.out) HX.out (val_one _) (by unfold maxLen; omega) (by omega) z6
    simp only [Nat.zero_add, List.nil_append] at hr8 ho8
    have b8 := Kit.grown_below hg8 z6 (by intro k hk; cases hk)
    have B8 := B6.trans b8
    clear hg8 b8
    obtain ⟨g, rfl, hgB, hgl, hmc8, hcell, hfrz⟩ := ho8.at_ (by omega)
    obtain ⟨k, hk⟩ : ∃ k : Nat, pk a3 (M : Int) = (k : Int) := Int.eq_ofNat_of_zero_le (pk_lo _ _ hMp)
    have hkM : k < M := by have := pk_hi a3 (M : Int) hMp; omega
    have hkL : k < L.length := by rw [HLen.out]; exact hkM
    have hck := hcell k hkM
    rw [List.getElem?_map, List.getElem?_eq_getElem hkL] at hck
    have hck2 : w8.cell? ⟨g, k, none⟩ = some (.int .u32 (U L[k])) := hck
    have hfk := hfrz k
    have hset := ho8.set k (val (L[k] ^^^ d)) hkM
    rw [← List.map_set] at hset
    have r9 := row_src hset.src
    have hbq := set_beq L k hkL d
    obtain ⟨y, hy⟩ : ∃ y, L[k] = y := ⟨_, rfl⟩
    rw [hy] at hck2 r9 hbq
    have hx := U_xor y d
    have R9 := Lib.hid r9
    have B9 := B8.setCell (p := ⟨g, k, none⟩) hgB (val (y ^^^ d))
    clear hck hcell hfrz hset r9 hy ho8
    go_wp2_with fail
    refine (pick_any a3 _ _ l5 l6 hMp (by omega)).mono ?_
    rintro e w10 ⟨rfl, rfl⟩
    go_wp2_with (at_builtin; refine Kit.app_eq rfl (.const (.slice none 0 0)) (.tmp 62) 23 rfl rfl rfl hr8 ?_)
    refine (all_any _ _ _ c8 (L.set k (y ^^^ d)) (by rw [List.length_set, HLen.out]) (by unfold maxLen; omega) R9.out).mono ?_
    rintro e w11 ⟨rfl, rfl⟩
    go_wp2
    go_ret
    exact ⟨rfl, B9⟩

set_option maxRecDepth 100000 in
set_option maxHeartbeats 400000 in
theorem lifted (os : Os) (started : os.Started) (H : Type) (enc : TypeId × Value → H) :
    ReturnsInHanded {} Try.checked os 7 .any (Rows.crcFoldSpec.pre6 enc Try.prog Try.f7 Rows.crcFoldRow.domain false) (Rows.crcFoldSpec.post enc Try.prog Try.f7 false true false false) := by
  refine returnsInHanded_of_change (C := Try.checked) own started (by kernel_rfl) Try.func7
    (ChangeSpec.witness6 (enc := enc) (C := Try.checked) false ⟨#[], #[.slice none 0 0, .int .u32 0, .int .u32 0, .int .i64 0], []⟩ 8 (by kernel_rfl) (by kernel_rfl) (by kernel_rfl) (by kernel_rfl)) ?_
  intro W base args ds gs before hval0 hW hcnd _
  have hval : ∀ (j : Nat) t v, Try.f7.params[j]? = some t → args[j]? = some v → Value.okWide Try.prog W .any base t v := hval0
  have hW' := hW
  obtain ⟨p, q, hA0, hV, rfl, hfz, hnd⟩ := hW
  have hA : DataW.TrodAll enc Try.prog W 0 (fun _ => true) true Try.f7.params.toList args.toList ds p := hA0
  rw [Try.params7] at hA hval
  obtain ⟨v0, vs0, d0, ds0, p0, q0, hargs, rfl, rfl, h0, r0⟩ := trodAll_cons hA
  obtain ⟨v1, vs1, d1, ds1, p1, q1, rfl, rfl, rfl, h1, r1⟩ := trodAll_cons r0
  obtain ⟨v2, vs2, d2, ds2, p2, q2, rfl, rfl, rfl, h2, r2⟩ := trodAll_cons r1
  obtain ⟨v3, vs3, d3, ds3, p3, q3, rfl, rfl, rfl, h3, r3⟩ := trodAll_cons r2
  obtain ⟨rfl, rfl, rfl⟩ := trodAll_nil r3
  obtain rfl : args = #[v0, v1, v2, v3] := by cases args; simp_all
  obtain ⟨rfl, rfl⟩ := trodVars_none hV
  obtain ⟨a0, len0, cap0, rfl⟩ := okWide_slice Try.underlying23 (hval 0 23 v0 rfl rfl)
  have k0 := h0
  have lt0 : ∀ x ∈ p0, x.block < W.heap.size := by obtain ⟨m, hm⟩ := k0; exact DataW.trod_lt m _ _ _ hm
  obtain ⟨z0, w0⟩ : ∃ zs, IsRow .u32 W a0 len0 cap0 zs := by
    obtain ⟨fuel, hf⟩ := h0
    rcases open_ints Try.underlying23 Try.underlying22 (by kernel_rfl) hf with ⟨hcs, _⟩ | ⟨x, l, c, zs, hcs, _, hl, hm, hz, _, hcell, hwz⟩
    · simp [Value.cells] at hcs
      obtain ⟨rfl, rfl, rfl⟩ := hcs
      exact ⟨[], .inl ⟨rfl, rfl, rfl, rfl⟩⟩
    · simp [Value.cells] at hcs
      obtain ⟨rfl, rfl, rfl⟩ := hcs
      exact ⟨zs, .inr ⟨_, rfl, hl, hm, by simpa using hz, hcell, hwz⟩⟩
  obtain ⟨a1, rfl, rfl, rfl, w1⟩ := open_int Try.underlying22 (hval 1 22 v1 rfl rfl) h1
  obtain ⟨a2, rfl, rfl, rfl, w2⟩ := open_int Try.underlying22 (hval 2 22 v2 rfl rfl) h2
  obtain ⟨a3, rfl, rfl, rfl, w3⟩ := open_int Try.underlying3 (hval 3 3 v3 rfl rfl) h3
  clear hA0 hval0
  refine (walk a0 len0 cap0 z0 a1 a2 a3 W w0 w1 w2 w3).mono fun e W' ⟨he, bel⟩ => ?_
  subst he
  exact ⟨_, rfl, _, _, _, [], _, [], hW', trodAll_mk1 (shut_bool Try.underlying4 _), (trodAll_cons_mk (Below.trod laidOut (by kernel_rfl) (of_decide_eq_true (by kernel_rfl)) k0 bel lt0) (trodAll_cons_mk (shut_int Try.underlying22 w1) (trodAll_cons_mk (shut_int Try.underlying22 w2) (trodAll_cons_mk (shut_int Try.underlying3 w3) trodAll_mk0)))), rfl, bel.frame _, fun h => by cases h⟩

theorem over : Rows.crcFoldRow.holds Try.pinned (OpenSpec.ofChange Rows.crcFoldSpec) :=
  OpenClaim.holds_of_wide 7 Try.f7 rfl rfl rfl rfl rfl rfl rfl ⟨rfl, rfl, rfl, rfl, rfl⟩ rfl rfl rfl rfl rfl (by kernel_rfl) Try.func7 (by kernel_rfl)
    (of_decide_eq_true (by kernel_rfl)) (by unfold Func.isWrapper; first | (rw [if_pos (by decide +kernel)]; kernel_rfl) | (rw [if_neg (by decide +kernel)]; exact ⟨rfl, rfl⟩))
    (fun os started H enc _ => lifted os started H enc)

theorem proved : Rows.CrcFoldSaid := over
#print axioms proved
end Go.Proofs.Ytnkgkgemjledhaa.crcFold
