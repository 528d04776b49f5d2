/-
  The law FrontAgain of chapter 5 returns true: what comes again is told by how many unlike bytes came between; at once as 0.
  For every input: no condition.
-/
import Derived.Test.YtlanididnlmnhaaRows
import Derived.Test.YtlanididnlmnhaaFLaws0
import Derived.Test.YtlanididnlmnhaaFPlain3
import Derived.WalkLawsBesides
import Derived.WalkSpells
import Derived.Lib.Hide
import Derived.BigQuiet
import Derived.BigRegion
import Derived.WalkKit
import Derived.ProofKit
import Derived.OpenShut
import Derived.ShutString
import Derived.ChangeOld
import Derived.Below
namespace Go.Proofs.Ytlanididnlmnhaa.frontAgain
set_option linter.unusedVariables false
open Go.RowKit
open Front
open Go.ChangeShapes Go.WideShapes Go.ChangeAt Go.RowKit
open Go.ChangeMaps (open_string shut_string)

theorem own : ownKnob Try.prog.godebug = none := by kernel_rfl
theorem laidOut : laidOutB Try.prog = true := by kernel_rfl

/-- A slice of integers that came in. -/
def IsRow (k : IntKind) (w : World) (a : Option Addr) (len cap : Nat) (zs : List Int) : Prop :=
  (a = none ∧ len = 0 ∧ cap = 0 ∧ zs = []) ∨
  ∃ x, a = some x ∧ len ≤ cap ∧ cap ≤ maxLen ∧ zs.length = cap ∧ (∀ i, i < zs.length → w.cell? (x.add i) = some (.int k (zs.getD i 0))) ∧ ∀ n ∈ zs, (Lit.int k n).wf = true

theorem byte_bne (x y : UInt8) : ((x.toNat : Int) != (y.toNat : Int)) = decide (¬ x = y) := by
  have := byte_beq x y
  rw [bne, this, Bool.eq_iff_iff]
  simp
theorem addTo_in {acc : T} {x : UInt8} (h : x ∈ acc) : addTo acc x = acc := by unfold addTo; rw [if_pos h]
theorem addTo_out {acc : T} {x : UInt8} (h : ¬ x ∈ acc) : addTo acc x = acc ++ [x] := by unfold addTo; rw [if_neg h]
theorem bs_char2 (S : T) (t : ByteArray) (ht : bs S = t) (k : Nat) (hk : k < t.size) : ∃ h : k < S.length, t[k] = S[k] ∧ t.extract k (k + 1) = bs [S[k]] := by
  have hs : t.size = S.length := by rw [← ht, bs_size]
  have e : t[k] = S[k]'(by omega) := by subst ht; rw [← get_text (bs S) k hk]; simp only [bs_list]
  refine ⟨by omega, e, ?_⟩
  rw [bs_char t k hk, e]
theorem places_at {w : World} {p : Option Addr} {a s : T} (h : Kit.Src w p (((plcs a s).map fun k : Nat => (k : Int)).map inum)) (hal : all a s = true) (i : Nat) (hi : i < s.length) :
    ∃ b off, p = some ⟨b, off, none⟩ ∧ b < w.heap.size ∧ w.cell? ⟨b, off + i, none⟩ = some (.int .i64 (((fins a (s.take i)).idxOf s[i] : Nat) : Int)) ∧ (fins a (s.take i)).idxOf s[i] < a.length := by
  obtain ⟨b, off, h1, h2, h3⟩ := src_at h i (by rw [List.length_map, plcs_length]; exact hi)
  rw [List.getElem_map, plcs_at s a i hi] at h3
  refine ⟨b, off, h1, h2, h3, ?_⟩
  rw [← plcs_at s a i hi]
  exact plcs_lt s a hal _ (List.getElem_mem _)
set_option maxRecDepth 100000 in
set_option maxHeartbeats 4000000 in
theorem walk (a0 : ByteArray) (a1 : Option Addr) (len1 cap1 : Nat) (z1 : List Int) (w : World) (w0 : a0.size ≤ maxLen) (w1 : IsRow .i64 w a1 len1 cap1 z1) :
    Calls Try.prog 6 #[.string a0, .slice a1 len1 cap1] w fun e w' => e = .returned (.bool true) ∧ Below w.heap.size w w' := by
  obtain ⟨l, hl, hlm, hlc, hcm, hnone, hsrc, hbd⟩ := ints_of w1
  clear w1
  have HL := Lib.hid hl
  have HSRC := Lib.hid hsrc
  have HBD := Lib.hid hbd
  have HLM := Lib.hid hlm
  have hs0 : a0.size ≤ maxLen := w0
  unfold maxLen at hlm
  clear hl hsrc hbd w0 hcm hnone hlc
  go_enter Try.func6, Try.ntmps6
  go_wp2_with fail
  refine (awake_any _).mono ?_
  rintro e w1 ⟨rfl, b1⟩
  go_wp2_with fail
  refine (alphabet_any _ hs0 _).mono ?_
  rintro e w2 ⟨rfl, rfl⟩
  obtain ⟨A, hA⟩ : ∃ A, alpha a0.data.toList = A := ⟨_, rfl⟩
  have hnod : A.Nodup := by rw [← hA]; exact alpha_nodup _
  have hlen : A.length ≤ 30 := by rw [← hA]; exact alpha_len _
  rw [hA]
  clear hA
  have S1 := Lib.hid (HSRC.out.below b1)
  go_wp2_with fail
  refine (text_any (bs A) (by rw [bs_size]; omega) _ _ _ l HL.out 80 (by omega) HLM.out _ S1.out HBD.out).mono ?_
  rintro e w3 ⟨rfl, rfl⟩
  rw [bs_list]
  obtain ⟨S, hS⟩ : ∃ S, text A (l.take 80) = S := ⟨_, rfl⟩
  have hall : all A S = true := by rw [← hS]; exact text_all _ _
  have hSl : S.length ≤ 80 := by rw [← hS, text_len]; have := picks_le A (l.take 80); rw [List.length_take] at this; omega
  rw [hS]
  have HN := Lib.hid hnod
  have HALL := Lib.hid hall
  have z1 := b1.size
  clear hS S1 hnod hall
  go_wp2_with fail
  refine (front_all A S HN.out HALL.out (by omega) (by omega) _).mono ?_
  rintro e w4 ⟨p4, c4, rfl, s4, b4⟩
  have B4 : Below w.heap.size w w4 := b1.trans (b4.mono z1)
  have z4 := B4.size
  have S4 := Lib.hid s4
  have hss := bs_size S
  have hsa := bs_size A
  clear s4 b4 b1
  obtain ⟨t, ht⟩ : ∃ t, bs S = t := ⟨_, rfl⟩
  obtain ⟨n, hn⟩ : ∃ n, S.length = n := ⟨_, rfl⟩
  rw [ht, hn] at hss
  rw [hn] at hSl
  rw [ht, hn]
  subst hss
  have HT := Lib.hid ht
  have HNN := Lib.hid hn
  clear ht hn
  have hnil : (⟨#[]⟩ : ByteArray) = bs [] := by unfold bs; rfl
  have HNIL := Lib.hid hnil
  clear hnil
  go_wp2
  go_loopw [10] (fun i wr => ∃ k : Nat, k ≤ t.size ∧ i = .int .i64 k ∧ Below w4.heap.size w4 wr) (fun i _ => t.size - (intOf i).toNat)
  case atStart => exact ⟨0, by omega, rfl, Below.refl _ _⟩
  case round =>
    obtain ⟨i, hi, rfl, hbw⟩ := hrel
    by_cases hlt : i < t.size
    · obtain ⟨wo, rfl⟩ : ∃ wo : World, wo = wr := ⟨_, rfl⟩
      have hit : i < t.size := hlt
      have hiS : i ≤ S.length := by have := HNN.out; omega
      go_wp2
      go_loopw [11, 12] (fun d k wr => ∃ j : Nat, j ≤ i ∧ k = .int .i64 ((j : Int) - 1) ∧ d = .string (bs (btw S i j)) ∧ RowKit.Hid (others S i j (t[i]'hit)) ∧ Below wo.heap.size wo wr) (fun _ k _ => ((intOf k) + 1).toNat)
      case atStart => exact ⟨i, Nat.le_refl _, rfl, by rw [btw_start, ← HNIL.out], Lib.hid (others_start _ _ _), Below.refl _ _⟩
      case round =>
        obtain ⟨j, hj, rfl, rfl, hoth, hbi⟩ := hrel
        cases j with
        | zero =>
          rw [show (((0 : Nat) : Int) - 1) = -1 from rfl]
          obtain ⟨D, hD⟩ : ∃ D, btw S i 0 = D := ⟨_, rfl⟩
          have hDs := bs_size D
          have hDi : D.length ≤ i := by rw [← hD]; exact btw_len _ _ _
          have hpl := told_new A S i (t[i]'hit) hoth.out hiS
          rw [hD] at hpl
          obtain ⟨g, o, rfl, hg, hc⟩ := places_at S4.out HALL.out i (by have := HNN.out; omega)
          rw [← (bs_char2 S t HT.out i hit).2.1] at hc
          obtain ⟨x, hx⟩ : ∃ x, (fins A (S.take i)).idxOf (t[i]'hit) = x := ⟨_, rfl⟩
          rw [hx] at hpl hc
          obtain ⟨hc, hxA⟩ := hc
          have hcr := (hbw.trans (hbi.mono hbw.size)).cell (p := ⟨g, o + i, none⟩) hg
          rw [hc] at hcr
          have i0 : (0 : Int) ≤ (i : Int) := by omega
          have i3 : (i : Int) < (t.size : Int) := by omega
          have hzi := hbi.size
          have hzw := hbw.size
          rw [hD]
          clear hD hx hc
          go_wp2
          go_quiet (fail)
          go_wp2
          go_roundw
          case rel => exact ⟨i + 1, by omega, by go_num, below_drewN (hbw.trans (hbi.mono hzw)) _⟩
          case measure => simp [intOf]; omega
        | succ q =>
          have e1 : (((q + 1 : Nat) : Int) - 1) = (q : Int) := by omega
          rw [e1]
          have HE1 := Lib.hid e1
          have hqt : q < t.size := by omega
          obtain ⟨hqS, hq1, hq2⟩ := bs_char2 S t HT.out q hqt
          obtain ⟨D, hD⟩ : ∃ D, btw S i (q + 1) = D := ⟨_, rfl⟩
          have hDl : D.length ≤ i := by rw [← hD]; exact btw_len _ _ _
          have hDs := bs_size D
          rw [hD]
          have HD := Lib.hid hD
          have HQ1 := Lib.hid hq1
          have HQ2 := Lib.hid hq2
          clear hD e1 hq1 hq2
          have i0 : (0 : Int) ≤ (q : Int) := by omega
          have i1 : (q : Int) < (t.size : Int) := by omega
          have i2 : (0 : Int) ≤ (i : Int) := by omega
          have i3 : (i : Int) < (t.size : Int) := by omega
          by_cases hc : t[q]'hqt = t[i]'hit
          · have hne := byte_bne (t[q]'hqt) (t[i]'hit)
            rw [decide_eq_false (by simpa using hc)] at hne
            have hpl := told_again A S i q (t[i]'hit) hiS (by omega) hoth.out (by rw [← HQ1.out]; exact hc)
            rw [HD.out] at hpl
            obtain ⟨g, o, rfl, hg, hcc⟩ := places_at S4.out HALL.out i (by have := HNN.out; omega)
            rw [← (bs_char2 S t HT.out i hit).2.1, hpl] at hcc
            obtain ⟨hcc, hxA⟩ := hcc
            have hcr := (hbw.trans (hbi.mono hbw.size)).cell (p := ⟨g, o + i, none⟩) hg
            rw [hcc] at hcr
            have hzi := hbi.size
            have hzw := hbw.size
            clear hc hpl hcc
            go_wp2
            go_quiet (fail)
            go_wp2
            go_roundw
            case rel => exact ⟨i + 1, by omega, by go_num, below_drewN (hbw.trans (hbi.mono hzw)) _⟩
            case measure => simp [intOf]; omega
          · have hne := byte_bne (t[q]'hqt) (t[i]'hit)
            rw [decide_eq_true hc] at hne
            have HC := Lib.hid hc
            clear hc
            go_wp2
            go_quiet (fail)
            have hst := btw_step S i q hiS (by omega)
            rw [HD.out, ← HQ1.out] at hst
            have hon := others_step S i q (t[i]'hit) hiS (by omega) hoth.out (by rw [← HQ1.out]; exact HC.out)
            have hDn : D.Nodup := by rw [← HD.out]; exact ded_nodup _ _ List.nodup_nil
            have hzi := hbi.size
            have hJ : bs D ++ t.extract q (q + 1) = bs (D ++ [t[q]'hqt]) := by rw [HQ2.out, HQ1.out, bs_append]
            have HST := Lib.hid hst
            have HON := Lib.hid hon
            have HDN := Lib.hid hDn
            have HJ := Lib.hid hJ
            clear hst hon hDn hJ
            go_wp2_with fail
            rw [HJ.out]
            refine (rright_any (bs (D ++ [t[q]'hqt])) (by rw [bs_size, List.length_append]; unfold maxLen; simp; omega) _).mono ?_
            rintro e w7 ⟨rfl, rfl⟩
            rw [bs_list, right_snoc D _ HDN.out]
            by_cases hin : t[q]'hqt ∈ D
            · rw [decide_eq_true hin]
              have HIN := Lib.hid hin
              clear hin
              go_wp2
              go_roundw
              case rel => exact ⟨q, by omega, rfl, by rw [HST.out, addTo_in HIN.out], HON, below_drewN hbi _⟩
              case measure => simp [intOf]
            · rw [decide_eq_false hin]
              have HIN := Lib.hid hin
              clear hin
              go_wp2
              go_roundw
              case rel => exact ⟨q, by omega, rfl, by rw [HST.out, addTo_out HIN.out, HJ.out], HON, below_drewN hbi _⟩
              case measure => simp [intOf]
    · go_wp2
      go_ret
      exact ⟨rfl, B4.trans (hbw.mono z4)⟩

set_option maxRecDepth 100000 in
set_option maxHeartbeats 400000 in
theorem lifted (os : Os) (started : os.Started) (H : Type) (enc : TypeId × Value → H) :
    ReturnsInHanded {} Try.checked os 6 .any (Rows.frontAgainSpec.pre6 enc Try.prog Try.f6 Rows.frontAgainRow.domain false) (Rows.frontAgainSpec.post enc Try.prog Try.f6 false true false false) := by
  refine returnsInHanded_of_change (C := Try.checked) own started (by kernel_rfl) Try.func6
    (ChangeSpec.witness6 (enc := enc) (C := Try.checked) false ⟨#[], #[.string ByteArray.empty, .slice none 0 0], []⟩ 8 (by kernel_rfl) (by kernel_rfl) (by kernel_rfl) (by kernel_rfl)) ?_
  intro W base args ds gs before hval0 hW hcnd _
  have hval : ∀ (j : Nat) t v, Try.f6.params[j]? = some t → args[j]? = some v → Value.okWide Try.prog W .any base t v := hval0
  have hW' := hW
  obtain ⟨p, q, hA0, hV, rfl, hfz, hnd⟩ := hW
  have hA : DataW.TrodAll enc Try.prog W 0 (fun _ => true) true Try.f6.params.toList args.toList ds p := hA0
  rw [Try.params6] at hA hval
  obtain ⟨v0, vs0, d0, ds0, p0, q0, hargs, rfl, rfl, h0, r0⟩ := trodAll_cons hA
  obtain ⟨v1, vs1, d1, ds1, p1, q1, rfl, rfl, rfl, h1, r1⟩ := trodAll_cons r0
  obtain ⟨rfl, rfl, rfl⟩ := trodAll_nil r1
  obtain rfl : args = #[v0, v1] := by cases args; simp_all
  obtain ⟨rfl, rfl⟩ := trodVars_none hV
  obtain ⟨a0, rfl, rfl, rfl, w0⟩ := open_string Try.underlying9 (hval 0 9 v0 rfl rfl) h0
  obtain ⟨a1, len1, cap1, rfl⟩ := okWide_slice Try.underlying22 (hval 1 22 v1 rfl rfl)
  have k1 := h1
  have lt1 : ∀ x ∈ p1, x.block < W.heap.size := by obtain ⟨m, hm⟩ := k1; exact DataW.trod_lt m _ _ _ hm
  obtain ⟨z1, w1⟩ : ∃ zs, IsRow .i64 W a1 len1 cap1 zs := by
    obtain ⟨fuel, hf⟩ := h1
    rcases open_ints Try.underlying22 Try.underlying3 (by kernel_rfl) hf with ⟨hcs, _⟩ | ⟨x, l, c, zs, hcs, _, hl, hm, hz, _, hcell, hwz⟩
    · simp [Value.cells] at hcs
      obtain ⟨rfl, rfl, rfl⟩ := hcs
      exact ⟨[], .inl ⟨rfl, rfl, rfl, rfl⟩⟩
    · simp [Value.cells] at hcs
      obtain ⟨rfl, rfl, rfl⟩ := hcs
      exact ⟨zs, .inr ⟨_, rfl, hl, hm, by simpa using hz, hcell, hwz⟩⟩
  clear hA0 hval0
  refine (walk a0 a1 len1 cap1 z1 W w0 w1).mono fun e W' ⟨he, bel⟩ => ?_
  subst he
  exact ⟨_, rfl, _, _, _, [], _, [], hW', trodAll_mk1 (shut_bool Try.underlying4 _), (trodAll_cons_mk (shut_string Try.underlying9 w0) (trodAll_cons_mk (Below.trod laidOut (by kernel_rfl) (of_decide_eq_true (by kernel_rfl)) k1 bel lt1) trodAll_mk0)), rfl, bel.frame _, fun h => by cases h⟩

theorem over : Rows.frontAgainRow.holds Try.pinned (OpenSpec.ofChange Rows.frontAgainSpec) :=
  OpenClaim.holds_of_wide 6 Try.f6 rfl rfl rfl rfl rfl rfl rfl ⟨rfl, rfl, rfl, rfl, rfl⟩ rfl rfl rfl rfl rfl (by kernel_rfl) Try.func6 (by kernel_rfl)
    (of_decide_eq_true (by kernel_rfl)) (by unfold Func.isWrapper; first | (rw [if_pos (by decide +kernel)]; kernel_rfl) | (rw [if_neg (by decide +kernel)]; exact ⟨rfl, rfl⟩))
    (fun os started H enc _ => lifted os started H enc)

theorem proved : Rows.FrontAgainSaid := over
#print axioms proved
end Go.Proofs.Ytlanididnlmnhaa.frontAgain
