/-
  The law FrontSelf of chapter 5 returns true: an alphabet by itself is told by its places, and stands the other way round behind that; told again it is the last place, each time.
  For every input: no condition.
-/
import Derived.Test.YtlanididnlmnhaaRows
import Derived.Test.YtlanididnlmnhaaFLaws0
import Derived.WalkLawsBesides
import Derived.WalkSpells
import Derived.Lib.Hide
import Derived.BigQuiet
import Derived.WalkKit
import Derived.ProofKit
import Derived.OpenShut
import Derived.ShutString
import Derived.ChangeOld
import Derived.Below
namespace Go.Proofs.Ytlanididnlmnhaa.frontSelf
set_option linter.unusedVariables false
open Go.RowKit
open Front
open Go.ChangeShapes Go.WideShapes Go.ChangeAt Go.RowKit
open Go.ChangeMaps (open_string shut_string)

theorem own : ownKnob Try.prog.godebug = none := by kernel_rfl
theorem laidOut : laidOutB Try.prog = true := by kernel_rfl

set_option maxRecDepth 100000 in
set_option maxHeartbeats 4000000 in
theorem walk (a0 : ByteArray) (w : World) (w0 : a0.size ≤ maxLen) :
    Calls Try.prog 7 #[.string a0] w fun e w' => e = .returned (.bool true) ∧ Below w.heap.size w w' := by
  have hs0 : a0.size ≤ maxLen := w0
  clear w0
  go_enter Try.func7, Try.ntmps7
  go_wp2_with fail
  refine (awake_any _).mono ?_
  rintro e w1 ⟨rfl, b1⟩
  go_wp2_with fail
  refine (alphabet_any _ hs0 _).mono ?_
  rintro e w2 ⟨rfl, rfl⟩
  obtain ⟨A, hA⟩ : ∃ A, alpha a0.data.toList = A := ⟨_, rfl⟩
  have hnod : A.Nodup := by rw [← hA]; exact alpha_nodup _
  have hlen : A.length ≤ 30 := by rw [← hA]; exact alpha_len _
  rw [hA]
  clear hA
  have hall : all A A = true := by rw [all_iff]; exact fun c h => h
  have hall2 : all A (A ++ A) = true := by rw [all_append, hall]; rfl
  have HN := Lib.hid hnod
  have HALL := Lib.hid hall
  have HALL2 := Lib.hid hall2
  have hpl := self_places A hnod
  have hpl2 := self_again A hnod
  have HPL := Lib.hid hpl
  have HPL2 := Lib.hid hpl2
  clear hnod hall hall2 hpl hpl2
  have z1 := b1.size
  go_wp2_with fail
  refine (front_all A A HN.out HALL.out (by omega) (by omega) _).mono ?_
  rintro e w3 ⟨p3, c3, rfl, s3, b3⟩
  rw [HPL.out.1] at s3
  have B3 : Below w.heap.size w w3 := b1.trans (b3.mono z1)
  have z3 := B3.size
  have S3 := Lib.hid s3
  clear s3 b3 b1
  go_wp2_with fail
  refine (after_all A A HN.out HALL.out (by omega) (by omega) _).mono ?_
  rintro e w4 ⟨rfl, b4⟩
  rw [HPL.out.2]
  have B4 : Below w.heap.size w w4 := B3.trans (b4.mono z3)
  have z4 := B4.size
  have S4 := Lib.hid (S3.out.below b4)
  clear b4 B3
  have hj := bs_append A A
  have hbz := bs_size A
  have hbzr : (bs A.reverse).size = A.length := by rw [bs_size, List.length_reverse]
  have HJ := Lib.hid hj
  clear hj
  go_wp2_with fail
  rw [HJ.out]
  refine (front_all A (A ++ A) HN.out HALL2.out (by omega) (by rw [List.length_append]; omega) _).mono ?_
  rintro e w5 ⟨p5, c5, rfl, s5, b5⟩
  rw [HPL2.out] at s5
  have B5 : Below w.heap.size w w5 := B4.trans (b5.mono z4)
  have z5 := B5.size
  have S5 := Lib.hid s5
  have S54 := Lib.hid (S4.out.below b5)
  clear s5 b5 B4
  have hl2 : (A ++ A).length = 2 * A.length := by rw [List.length_append]; omega
  obtain ⟨n2, hn2⟩ : ∃ n2, (A ++ A).length = n2 := ⟨_, rfl⟩
  rw [hn2] at hl2
  rw [hn2]
  obtain ⟨a, ha⟩ : ∃ a, bs A = a := ⟨_, rfl⟩
  obtain ⟨b, hb⟩ : ∃ b, bs A.reverse = b := ⟨_, rfl⟩
  have hat : ∀ k (h : k < a.size) (h2 : k < A.length), a[k] = A[k] := by
    intro k h h2; subst ha; rw [← get_text (bs A) k h]; simp only [bs_list]
  have hbt : ∀ k (h : k < b.size) (h2 : k < A.reverse.length), b[k] = A.reverse[k] := by
    intro k h h2; subst hb; rw [← get_text (bs A.reverse) k h]; simp only [bs_list]
  rw [ha] at hbz
  rw [hb] at hbzr
  rw [ha, hb]
  obtain ⟨n, hn⟩ : ∃ n, A.length = n := ⟨_, rfl⟩
  rw [hn] at hlen hbz hbzr hl2
  rw [hn]
  have HAT := Lib.hid hat
  have HBT := Lib.hid hbt
  have HNN := Lib.hid hn
  clear hat hbt ha hb hn hn2
  go_wp2
  go_loopw [11] (fun i wr => ∃ k : Nat, k ≤ n ∧ i = .int .i64 k ∧ Below w5.heap.size w5 wr) (fun i _ => n - (intOf i).toNat)
  case atStart => exact ⟨0, by omega, rfl, Below.refl _ _⟩
  case round =>
    obtain ⟨k, hk, rfl, hbw⟩ := hrel
    by_cases hlt : k < n
    · obtain ⟨j, hjn⟩ : ∃ j, n = k + 1 + j := ⟨n - (k + 1), by omega⟩
      have hl3 : ((List.range A.length).map fun k : Nat => (k : Int)).length = n := by rw [List.length_map, List.length_range, HNN.out]
      have hl5 : ((List.range A.length ++ List.replicate A.length (A.length - 1)).map fun k : Nat => (k : Int)).length = n2 := by rw [List.length_map, List.length_append, List.length_range, List.length_replicate, HNN.out]; omega
      obtain ⟨g3, o3, e3, hg3, hc3⟩ := src_at S54.out k (by rw [hl3]; exact hlt)
      obtain ⟨g5, o5, e5, hg5, hc5⟩ := src_at S5.out k (by rw [hl5]; omega)
      obtain ⟨g6, o6, e6, hg6, hc6⟩ := src_at S5.out (n + k) (by rw [hl5]; omega)
      have q3 : ((List.range A.length).map fun k : Nat => (k : Int))[k]'(by rw [hl3]; exact hlt) = (k : Int) := by simp
      have q5 : ((List.range A.length ++ List.replicate A.length (A.length - 1)).map fun k : Nat => (k : Int))[k]'(by rw [hl5]; omega) = (k : Int) := by
        rw [List.getElem_map, List.getElem_append_left (by rw [List.length_range, HNN.out]; exact hlt)]; simp
      have q6 : ((List.range A.length ++ List.replicate A.length (A.length - 1)).map fun k : Nat => (k : Int))[n + k]'(by rw [hl5]; omega) = (n : Int) - 1 := by
        rw [List.getElem_map, List.getElem_append_right (by rw [List.length_range, HNN.out]; omega)]; simp; rw [HNN.out]; omega
      rw [q3] at hc3
      rw [q5] at hc5
      rw [q6] at hc6
      have r3 := hbw.cell (p := ⟨g3, o3 + k, none⟩) hg3
      rw [hc3] at r3
      have r5 := hbw.cell (p := ⟨g5, o5 + k, none⟩) hg5
      rw [hc5] at r5
      have r6 := hbw.cell (p := ⟨g6, o6 + (n + k), none⟩) hg6
      rw [hc6] at r6
      have e56 : g6 = g5 ∧ o6 = o5 := by rw [e5] at e6; injection e6 with e6; injection e6 with x y; exact ⟨x.symm, y.symm⟩
      obtain ⟨rfl, rfl⟩ := e56
      have hkb : k < b.size := by omega
      have hja : j < a.size := by omega
      have hab : b[k]'hkb = a[j]'hja := by
        rw [HBT.out k hkb (by rw [List.length_reverse, HNN.out]; exact hlt), HAT.out j hja (by rw [HNN.out]; omega), List.getElem_reverse]
        congr 1
        rw [HNN.out]; omega
      obtain ⟨x, hx⟩ : ∃ x, a[j]'hja = x := ⟨_, rfl⟩
      rw [hx] at hab
      have e1 : (n : Int) - 1 - (k : Int) = (j : Int) := by omega
      subst e3 e5
      clear e6 hl3 hl5 q3 q5 q6 hc3 hc5 hc6
      have HJN := Lib.hid hjn
      clear hjn
      go_wp2
      go_quiet (fail)
      go_wp2
      go_roundw
      case rel => exact ⟨k + 1, by omega, by go_num, below_drewN hbw _⟩
      case measure => simp [intOf]; omega
    · go_wp2
      go_ret
      exact ⟨rfl, B5.trans (hbw.mono z5)⟩

set_option maxRecDepth 100000 in
set_option maxHeartbeats 400000 in
theorem lifted (os : Os) (started : os.Started) (H : Type) (enc : TypeId × Value → H) :
    ReturnsInHanded {} Try.checked os 7 .any (Rows.frontSelfSpec.pre6 enc Try.prog Try.f7 Rows.frontSelfRow.domain false) (Rows.frontSelfSpec.post enc Try.prog Try.f7 false true false false) := by
  refine returnsInHanded_of_change (C := Try.checked) own started (by kernel_rfl) Try.func7
    (ChangeSpec.witness6 (enc := enc) (C := Try.checked) false ⟨#[], #[.string ByteArray.empty], []⟩ 8 (by kernel_rfl) (by kernel_rfl) (by kernel_rfl) (by kernel_rfl)) ?_
  intro W base args ds gs before hval0 hW hcnd _
  have hval : ∀ (j : Nat) t v, Try.f7.params[j]? = some t → args[j]? = some v → Value.okWide Try.prog W .any base t v := hval0
  have hW' := hW
  obtain ⟨p, q, hA0, hV, rfl, hfz, hnd⟩ := hW
  have hA : DataW.TrodAll enc Try.prog W 0 (fun _ => true) true Try.f7.params.toList args.toList ds p := hA0
  rw [Try.params7] at hA hval
  obtain ⟨v0, vs0, d0, ds0, p0, q0, hargs, rfl, rfl, h0, r0⟩ := trodAll_cons hA
  obtain ⟨rfl, rfl, rfl⟩ := trodAll_nil r0
  obtain rfl : args = #[v0] := by cases args; simp_all
  obtain ⟨rfl, rfl⟩ := trodVars_none hV
  obtain ⟨a0, rfl, rfl, rfl, w0⟩ := open_string Try.underlying9 (hval 0 9 v0 rfl rfl) h0
  clear hA0 hval0
  refine (walk a0 W w0).mono fun e W' ⟨he, bel⟩ => ?_
  subst he
  exact ⟨_, rfl, _, _, _, [], _, [], hW', trodAll_mk1 (shut_bool Try.underlying4 _), (trodAll_cons_mk (shut_string Try.underlying9 w0) trodAll_mk0), rfl, bel.frame _, fun h => by cases h⟩

theorem over : Rows.frontSelfRow.holds Try.pinned (OpenSpec.ofChange Rows.frontSelfSpec) :=
  OpenClaim.holds_of_wide 7 Try.f7 rfl rfl rfl rfl rfl rfl rfl ⟨rfl, rfl, rfl, rfl, rfl⟩ rfl rfl rfl rfl rfl (by kernel_rfl) Try.func7 (by kernel_rfl)
    (of_decide_eq_true (by kernel_rfl)) (by unfold Func.isWrapper; first | (rw [if_pos (by decide +kernel)]; kernel_rfl) | (rw [if_neg (by decide +kernel)]; exact ⟨rfl, rfl⟩))
    (fun os started H enc _ => lifted os started H enc)

theorem proved : Rows.FrontSelfSaid := over
#print axioms proved
end Go.Proofs.Ytlanididnlmnhaa.frontSelf
