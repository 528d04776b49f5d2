/-
  The law FrontParts of chapter 5 returns true: Front of two texts, one behind the other, is that of each; After has the same bytes, the last one that came first.
  For every input: no condition.
-/
import Derived.Test.YtlanididnlmnhaaRows
import Derived.Test.YtlanididnlmnhaaFLaws0
import Derived.Test.YtlanididnlmnhaaDrn
import Derived.WalkLawsBesides
import Derived.WalkSpells
import Derived.Lib.Hide
import Derived.BigQuiet
import Derived.BigRegion
import Derived.Deep.RegionLaw
import Derived.WalkKit
import Derived.ProofKit
import Derived.OpenShut
import Derived.ShutString
import Derived.ChangeOld
import Derived.Below
namespace Go.Proofs.Ytlanididnlmnhaa.frontParts
set_option linter.unusedVariables false
open Go.RowKit
open Front
open Go.ChangeShapes Go.WideShapes Go.ChangeAt Go.RowKit
open Go.ChangeMaps (open_string shut_string)

theorem own : ownKnob Try.prog.godebug = none := by kernel_rfl
theorem laidOut : laidOutB Try.prog = true := by kernel_rfl

/-- A slice of integers that came in. -/
def IsRow (k : IntKind) (w : World) (a : Option Addr) (len cap : Nat) (zs : List Int) : Prop :=
  (a = none ∧ len = 0 ∧ cap = 0 ∧ zs = []) ∨
  ∃ x, a = some x ∧ len ≤ cap ∧ cap ≤ maxLen ∧ zs.length = cap ∧ (∀ i, i < zs.length → w.cell? (x.add i) = some (.int k (zs.getD i 0))) ∧ ∀ n ∈ zs, (Lit.int k n).wf = true

theorem bs_take (l : List UInt8) (k : Nat) : (bs l).extract 0 k = bs (l.take k) := by
  apply list_inj; rw [list_extract, bs_list, bs_list, List.drop_zero]
theorem bs_drop (l : List UInt8) (k : Nat) : (bs l).extract k (bs l).size = bs (l.drop k) := by
  apply list_inj; rw [list_extract, bs_list, bs_list, bs_size, List.take_length]
set_option maxRecDepth 100000 in
set_option maxHeartbeats 4000000 in
theorem walk (a0 : ByteArray) (a1 : Option Addr) (len1 cap1 : Nat) (z1 : List Int) (a2 : Int) (w : World) (w0 : a0.size ≤ maxLen) (w1 : IsRow .i64 w a1 len1 cap1 z1) (w2 : (Lit.int .i64 a2).wf = true) :
    Calls Try.prog 5 #[.string a0, .slice a1 len1 cap1, .int .i64 a2] w fun e w' => e = .returned (.bool true) ∧ Below w.heap.size w w' := by
  obtain ⟨l, hl, hlm, hlc, hcm, hnone, hsrc, hbd⟩ := ints_of w1
  obtain ⟨l5, l6⟩ := bounds_i64 w2
  clear w1 w2
  have HL := Lib.hid hl
  have HSRC := Lib.hid hsrc
  have HBD := Lib.hid hbd
  have HLM := Lib.hid hlm
  have hs0 : a0.size ≤ maxLen := w0
  unfold maxLen at hlm
  clear hl hsrc hbd w0 hcm hnone hlc
  go_enter Try.func5, Try.ntmps5
  go_wp2_with fail
  refine (awake_any _).mono ?_
  rintro e w1 ⟨rfl, b1⟩
  go_wp2_with fail
  refine (alphabet_any _ hs0 _).mono ?_
  rintro e w2 ⟨rfl, rfl⟩
  obtain ⟨A, hA⟩ : ∃ A, alpha a0.data.toList = A := ⟨_, rfl⟩
  have hnod : A.Nodup := by rw [← hA]; exact alpha_nodup _
  have hlen : A.length ≤ 30 := by rw [← hA]; exact alpha_len _
  rw [hA]
  clear hA
  have S1 := Lib.hid (HSRC.out.below b1)
  go_wp2_with fail
  refine (text_any (bs A) (by rw [bs_size]; omega) _ _ _ l HL.out 200 (by omega) HLM.out _ S1.out HBD.out).mono ?_
  rintro e w3 ⟨rfl, rfl⟩
  rw [bs_list]
  obtain ⟨S, hS⟩ : ∃ S, text A (l.take 200) = S := ⟨_, rfl⟩
  have hall : all A S = true := by rw [← hS]; exact text_all _ _
  have hSl : S.length ≤ 200 := by rw [← hS, text_len]; have := picks_le A (l.take 200); rw [List.length_take] at this; omega
  rw [hS]
  clear hS S1
  have HN := Lib.hid hnod
  have HALL := Lib.hid hall
  have hss := bs_size S
  have z1 := b1.size
  go_wp2_with fail
  refine (pick_any a2 ((S.length : Int) + 1) _ l5 l6 (by omega) (by omega)).mono ?_
  rintro e w4 ⟨rfl, rfl⟩
  obtain ⟨k, hk⟩ : ∃ k : Nat, pk a2 ((S.length : Int) + 1) = (k : Int) := Int.eq_ofNat_of_zero_le (pk_lo _ _ (by omega))
  have hkS : k ≤ S.length := by have := pk_hi a2 ((S.length : Int) + 1) (by omega); omega
  rw [hk]
  clear hk l5 l6
  have hst : S.take k ++ S.drop k = S := List.take_append_drop k S
  have hal1 : all A (S.take k) = true := by
    have := hall; rw [← hst, all_append, Bool.and_eq_true] at this; exact this.1
  have hal2 : all A (S.drop k) = true := by
    have := hall; rw [← hst, all_append, Bool.and_eq_true] at this; exact this.2
  have hplS := plcs_append A (S.take k) (S.drop k)
  have hfiS := fins_append A (S.take k) (S.drop k)
  rw [hst] at hplS hfiS
  have hBn := fins_nodup (S.take k) A hnod
  have hBl := fins_length (S.take k) A hal1
  have hBm := fins_mem (S.take k) A hal1
  have hal3 := all_fins A (S.take k) (S.drop k) hal1
  rw [hal2] at hal3
  have hhead : ∀ h : 0 < k, ∃ r, fins A (S.take k) = S[k - 1]'(by omega) :: r := fun h => fins_take A S k h hkS
  have ht1 : (S.take k).length ≤ 200 := by rw [List.length_take]; omega
  have ht2 : (S.drop k).length ≤ 200 := by rw [List.length_drop]; omega
  have htk := bs_take S k
  have hdk := bs_drop S k
  have hl1 : (S.take k).length = k := by rw [List.length_take]; omega
  obtain ⟨m, hl2⟩ : ∃ m, (S.drop k).length = m := ⟨_, rfl⟩
  have hkm : k + m = S.length := by rw [← hl2, List.length_drop]; omega
  have HL1 := Lib.hid hl1
  have HL2 := Lib.hid hl2
  have HKM := Lib.hid hkm
  rw [hl1] at ht1
  rw [hl2] at ht2
  clear hl1 hl2 hkm
  obtain ⟨B, hB⟩ : ∃ B, fins A (S.take k) = B := ⟨_, rfl⟩
  rw [hB] at hplS hfiS hBn hBl hBm hal3 hhead
  have HB := Lib.hid hB
  have HT := Lib.hid htk
  have HD := Lib.hid hdk
  have HA1 := Lib.hid hal1
  have HA3 := Lib.hid hal3
  have HPLS := Lib.hid hplS
  have HFIS := Lib.hid hfiS
  have HBN := Lib.hid hBn
  have HBM := Lib.hid hBm
  have HHEAD := Lib.hid hhead
  clear hnod hall hst hal1 hal2 hplS hfiS hBn hBm hal3 hhead htk hdk hB
  go_wp2_with fail
  rw [HT.out]
  refine (after_all A (S.take k) HN.out HA1.out (by omega) (by rw [HL1.out]; omega) _).mono ?_
  rintro e w5 ⟨rfl, b5⟩
  rw [HB.out]
  have B5 : Below w.heap.size w w5 := b1.trans (b5.mono z1)
  have z5 := B5.size
  clear b1 b5 z1
  go_wp2_with fail
  refine (front_all A S HN.out HALL.out (by omega) (by omega) _).mono ?_
  rintro e w6 ⟨p6, c6, rfl, s6, b6⟩
  have B6 : Below w.heap.size w w6 := B5.trans (b6.mono z5)
  have z6 := B6.size
  have S6 := Lib.hid s6
  clear s6 b6 B5 z5
  go_wp2_with fail
  rw [HT.out]
  refine (front_allN A (S.take k) HN.out HA1.out (by omega) (by rw [HL1.out]; omega) _).mono ?_
  rintro e w7 ⟨p7, c7, rfl, s7, b7, n7⟩
  rw [HL1.out] at n7
  rw [HL1.out]
  have HN7 := Lib.hid n7
  clear n7
  have B7 : Below w.heap.size w w7 := B6.trans (b7.mono z6)
  have z7 := B7.size
  have S7 := Lib.hid s7
  have S67 := Lib.hid (S6.out.below b7)
  clear s7 b7 B6 z6 S6
  go_wp2_with fail
  rw [← hss, HD.out]
  refine (front_allN B (S.drop k) HBN.out HA3.out (by omega) (by rw [HL2.out]; omega) _).mono ?_
  rintro e w8 ⟨p8, c8, rfl, s8, b8, n8⟩
  rw [HL2.out] at n8
  rw [HL2.out]
  have HN8 := Lib.hid n8
  clear n8
  have B8 : Below w.heap.size w w8 := B7.trans (b8.mono z7)
  have z8 := B8.size
  have S8 := Lib.hid s8
  have S78 := Lib.hid (S7.out.below b8)
  have S68 := Lib.hid (S67.out.below b8)
  clear s8 b8 B7 z7 S7 S67
  go_wp2_with fail
  rw [← hss, HD.out]
  refine (after_all B (S.drop k) HBN.out HA3.out (by omega) (by rw [HL2.out]; omega) _).mono ?_
  rintro e w9 ⟨rfl, b9⟩
  rw [← HFIS.out]
  have B9 : Below w.heap.size w w9 := B8.trans (b9.mono z8)
  have z9 := B9.size
  have S89 := Lib.hid (S8.out.below b9)
  have S79 := Lib.hid (S78.out.below b9)
  have S69 := Lib.hid (S68.out.below b9)
  clear b9 B8 z8 S8 S78 S68
  go_wp2_with fail
  refine (after_all A S HN.out HALL.out (by omega) (by omega) _).mono ?_
  rintro e w10 ⟨rfl, b10⟩
  have B10 : Below w.heap.size w w10 := B9.trans (b10.mono z9)
  have z10 := B10.size
  have S80 := Lib.hid (S89.out.below b10)
  have S70 := Lib.hid (S79.out.below b10)
  have S60 := Lib.hid (S69.out.below b10)
  clear b10 B9 z9 S89 S79 S69
  have hbA := bs_size A
  have hbB := bs_size B
  rw [hBl] at hbB
  go_wp2_with fail
  refine (right_any (bs B) (by rw [hbB]; unfold maxLen; omega) _).mono ?_
  rintro e w11 ⟨rfl, b11⟩
  rw [bs_list, right_nodup B HBN.out]
  have B11 : Below w.heap.size w w11 := B10.trans (b11.mono z10)
  have z11 := B11.size
  have S81 := Lib.hid (S80.out.below b11)
  have S71 := Lib.hid (S70.out.below b11)
  have S61 := Lib.hid (S60.out.below b11)
  clear b11 B10 z10 S80 S70 S60
  go_wp2
  go_loopw [23] (fun i wr => ∃ x : Nat, x ≤ A.length ∧ i = .int .i64 x ∧ Below w11.heap.size w11 wr) (fun i _ => A.length - (intOf i).toNat)
  case atStart => exact ⟨0, by omega, rfl, Below.refl _ _⟩
  case round =>
    obtain ⟨x, hx, rfl, hbw⟩ := hrel
    by_cases hlt : x < A.length
    · have hone := bs_one A x hlt
      have hmem : A.getD x 0 ∈ B := by
        refine (HBM.out _).2 ?_
        rw [getD_at A x hlt]; exact List.getElem_mem hlt
      have hal4 : all B [A.getD x 0] = true := by rw [all_iff]; intro c hc; rw [List.mem_singleton] at hc; subst hc; exact hmem
      have HONE := Lib.hid hone
      have HA4 := Lib.hid hal4
      have zw := hbw.size
      clear hone hmem hal4
      go_wp2_with fail
      rw [HONE.out]
      refine (front_all B [A.getD x 0] HBN.out HA4.out (by omega) (by simp) _).mono ?_
      rintro e w12 ⟨p12, c12, rfl, _, b12⟩
      go_wp2
      go_roundw
      case rel => exact ⟨x + 1, by omega, by go_num, hbw.trans (b12.mono zw)⟩
      case measure => simp [intOf]; omega
    · obtain ⟨wm, rfl⟩ : ∃ wm : World, wm = wr := ⟨_, rfl⟩
      have S8m := Lib.hid (S81.out.below hbw)
      have S7m := Lib.hid (S71.out.below hbw)
      have S6m := Lib.hid (S61.out.below hbw)
      have zm := hbw.size
      obtain ⟨q1, d1, v1, hr1, ho1, hg1⟩ := Kit.Own.app (ty := 22) one_int (Kit.Own.start wm.drew wm.heap.size 3) p7 k c7 ((plcs A (S.take k)).map ival) (S7m.out.below (Below.refl _ _).drew) (by rw [List.length_map, plcs_length, HL1.out]) HN7.out (ival_one _) (by unfold maxLen; omega) (by omega) (Nat.le_refl _)
      simp only [Nat.zero_add, List.nil_append] at hr1 ho1
      have hb1 : Below wm.heap.size wm v1 := (Below.refl _ _).drew.trans (Kit.grown_below hg1 (Nat.le_refl _) (by intro k hk; cases hk))
      obtain ⟨q2, d2, v2, hr2, ho2, hg2⟩ := Kit.Own.app (ty := 22) (w := v1) one_int ho1 p8 m c8 ((plcs B (S.drop k)).map ival) (S8m.out.below hb1) (by rw [List.length_map, plcs_length, HL2.out]) HN8.out (ival_one _) (by unfold maxLen; omega) (by omega) hb1.size
      have hb2 : Below wm.heap.size wm v2 := hb1.trans (Kit.grown_below hg2 hb1.size ho1.block)
      rw [← List.map_append, ← HPLS.out] at ho2
      have hn12 : k + m = S.length := HKM.out
      rw [hn12] at hr2 ho2
      have B2 : Below w.heap.size w v2 := (B11.trans (hbw.mono z11)).trans (hb2.mono (by omega))
      have CI := Lib.hid (ints_any p6 q2 c6 d2 S.length S.length ((plcs A S).map fun k : Nat => (k : Int)) ((plcs A S).map fun k : Nat => (k : Int)) (by rw [List.length_map, plcs_length]) (by rw [List.length_map, plcs_length]) (by omega) (by omega) v2 (S6m.out.below hb2) (by rw [ints_one]; exact ho2.src))
      have z2 := B2.size
      have HB2 := Lib.hid B2
      clear hb1 hb2 ho1 ho2 hg1 hg2 hn12 B2
      by_cases hk0 : k = 0
      · have hkz : ((k : Int) == 0) = true := by rw [hk0]; rfl
        have HK := Lib.hid hk0
        clear hk0
        go_wp2
        refine Kit.drn_start (by kernel_rfl) ?_
        refine Kit.drn_take 0 (.bool true) rfl (by kernel_rfl) (by kernel_rfl) (by kernel_rfl) (fun _ _ _ h => h) (by kernel_rfl) (fun w => by kernel_rfl) ?_
        refine Kit.drn_take 1 (.bool true) rfl (by kernel_rfl) (by kernel_rfl) (by kernel_rfl) (fun _ _ _ h => h) (by kernel_rfl) (fun w => by kernel_rfl) ?_
        refine Kit.drn_take 2 (.slice p6 S.length c6) rfl (by kernel_rfl) (by kernel_rfl) (by kernel_rfl) (fun _ _ _ h => h) (by kernel_rfl) (fun w => by kernel_rfl) ?_
        refine Kit.drn_take 3 (.slice p7 k c7) rfl (by kernel_rfl) (by kernel_rfl) (by kernel_rfl) (fun _ _ _ h => h) (by kernel_rfl) (fun w => by kernel_rfl) ?_
        refine Kit.drn_take 5 (.slice p8 m c8) rfl (by kernel_rfl) (by kernel_rfl) (by kernel_rfl) (fun _ _ _ h => h) (by kernel_rfl) (fun w => by kernel_rfl) ?_
        refine Kit.drn_one 4 rfl (by kernel_rfl) (by kernel_rfl) ?_
        refine Kit.drn_val (w' := v1) (.slice q1 k d1) (Kit.run_app (.const (.slice none 0 0)) (.tmp 136) 22 rfl (by kernel_rfl) (by kernel_rfl) hr1) ?_
        refine Kit.drn_one 6 rfl (by kernel_rfl) (by kernel_rfl) ?_
        refine Kit.drn_val (w' := v2) (.slice q2 S.length d2) (Kit.run_app (.tmp 137) (.tmp 138) 22 rfl (by kernel_rfl) (by kernel_rfl) hr2) ?_
        refine Kit.drn_one 7 rfl (by kernel_rfl) (by kernel_rfl) ?_
        refine Kit.drn_call 19 #[.slice p6 S.length c6, .slice q2 S.length d2] (.bool true) (R := fun w' => Below v2.heap.size v2 w') (by kernel_rfl) (CI.out.mono fun e w' h => ⟨by rw [h.1]; simp, h.2⟩) ?_
        intro v3 hv3
        refine Kit.drn_take 8 (.bool true) rfl (by kernel_rfl) (by kernel_rfl) (by kernel_rfl) (fun _ _ _ h => h) (by kernel_rfl) (fun w => by kernel_rfl) ?_
        refine Kit.drn_take 9 (.bool true) rfl (by kernel_rfl) (by kernel_rfl) (by kernel_rfl) (fun _ _ _ h => h) (by kernel_rfl) (fun w => by kernel_rfl) ?_
        refine Kit.drn_take 10 (.string (bs (fins A S))) rfl (by kernel_rfl) (by kernel_rfl) (by kernel_rfl) (fun _ _ _ h => h) (by kernel_rfl) (fun w => by kernel_rfl) ?_
        refine Kit.drn_take 11 (.string (bs (fins A S))) rfl (by kernel_rfl) (by kernel_rfl) (by kernel_rfl) (fun _ _ _ h => h) (by kernel_rfl) (fun w => by kernel_rfl) ?_
        refine Kit.drn_take 12 (.bool true) rfl (by kernel_rfl) (by kernel_rfl) (by kernel_rfl) (fun _ _ _ h => h) (by kernel_rfl) (fun w => Kit.run_same_text (x := .tmp 143) (y := .tmp 144) (bs (fins A S)) rfl (by kernel_rfl) (by kernel_rfl) w) ?_
        refine Kit.drn_take 13 (.bool true) rfl (by kernel_rfl) (by kernel_rfl) (by kernel_rfl) (fun _ _ _ h => h) (by kernel_rfl) (fun w => by kernel_rfl) ?_
        refine Kit.drn_take 14 (.bool true) rfl (by kernel_rfl) (by kernel_rfl) (by kernel_rfl) (fun _ _ _ h => h) (by kernel_rfl) (fun w => by kernel_rfl) ?_
        refine Kit.drn_take 15 (.int .i64 (k : Int)) rfl (by kernel_rfl) (by kernel_rfl) (by kernel_rfl) (fun _ _ _ h => h) (by kernel_rfl) (fun w => by kernel_rfl) ?_
        refine Kit.drn_take 16 (.bool true) rfl (by kernel_rfl) (by kernel_rfl) (by kernel_rfl) (fun _ _ _ h => h) (by kernel_rfl) (fun w => Kit.run_eq_int (x := .tmp 148) (y := .const (.int .i64 0)) (k := .i64) (m := (k : Int)) (n := 0) true rfl (by kernel_rfl) (by kernel_rfl) hkz w) ?_
        refine Kit.drn_take 17 (.bool true) rfl (by kernel_rfl) (by kernel_rfl) (by kernel_rfl) (fun _ _ _ h => h) (by kernel_rfl) (fun w => by kernel_rfl) ?_
        refine Kit.drn_skip 18 rfl (by kernel_rfl) (by kernel_rfl) (by kernel_rfl) (fun _ _ _ h => h) (by kernel_rfl) ?_
        refine Kit.drn_skip 19 rfl (by kernel_rfl) (by kernel_rfl) (by kernel_rfl) (fun _ _ _ h => h) (by kernel_rfl) ?_
        refine Kit.drn_skip 20 rfl (by kernel_rfl) (by kernel_rfl) (by kernel_rfl) (fun _ _ _ h => h) (by kernel_rfl) ?_
        refine Kit.drn_skip 21 rfl (by kernel_rfl) (by kernel_rfl) (by kernel_rfl) (fun _ _ _ h => h) (by kernel_rfl) ?_
        refine Kit.drn_skip 22 rfl (by kernel_rfl) (by kernel_rfl) (by kernel_rfl) (fun _ _ _ h => h) (by kernel_rfl) ?_
        refine Kit.drn_skip 23 rfl (by kernel_rfl) (by kernel_rfl) (by kernel_rfl) (fun _ _ _ h => h) (by kernel_rfl) ?_
        refine Kit.drn_skip 24 rfl (by kernel_rfl) (by kernel_rfl) (by kernel_rfl) (fun _ _ _ h => h) (by kernel_rfl) ?_
        refine Kit.drn_take 25 (.bool true) rfl (by kernel_rfl) (by kernel_rfl) (by kernel_rfl) (fun _ _ _ h => h) (by kernel_rfl) (fun w => by kernel_rfl) ?_
        refine Kit.drn_take 26 (.bool true) rfl (by kernel_rfl) (by kernel_rfl) (by kernel_rfl) (fun _ _ _ h => h) (by kernel_rfl) (fun w => by kernel_rfl) ?_
        refine Kit.drn_take 27 (.bool true) rfl (by kernel_rfl) (by kernel_rfl) (by kernel_rfl) (fun _ _ _ h => h) (by kernel_rfl) (fun w => by kernel_rfl) ?_
        refine wpAny_done (by kernel_rfl) ?_ _
        go_wp2
        refine bodyPost_ret (v := .bool true) (by kernel_rfl) (by kernel_rfl) ⟨rfl, HB2.out.trans (hv3.mono z2)⟩
      · have hkz : ((k : Int) == 0) = false := by simpa using hk0
        have hk1 : 0 < k := by omega
        have hk2 : k ≤ 100000 := by omega
        have hA0 : 0 < A.length := by
          have h1 := HALL.out
          rw [all_iff] at h1
          exact List.length_pos_of_mem (h1 (S[0]'(by omega)) (List.getElem_mem _))
        have hB0 : 0 < (bs B).size := by omega
        have hS0 : k - 1 < (bs S).size := by omega
        have hBS : ((((bs B)[0]'hB0).toNat : Int) == (((bs S)[k - 1]'hS0).toNat : Int)) = true := by
          obtain ⟨r, hr⟩ := HHEAD.out hk1
          have e1 : (bs B)[0]'hB0 = (bs S)[k - 1]'hS0 := by
            rw [← get_text (bs B) 0 hB0, ← get_text (bs S) (k - 1) hS0]
            simp only [bs_list, hr, List.getElem_cons_zero]
          rw [e1]; simp
        go_wp2
        refine Kit.drn_start (by kernel_rfl) ?_
        refine Kit.drn_take 0 (.bool true) rfl (by kernel_rfl) (by kernel_rfl) (by kernel_rfl) (fun _ _ _ h => h) (by kernel_rfl) (fun w => by kernel_rfl) ?_
        refine Kit.drn_take 1 (.bool true) rfl (by kernel_rfl) (by kernel_rfl) (by kernel_rfl) (fun _ _ _ h => h) (by kernel_rfl) (fun w => by kernel_rfl) ?_
        refine Kit.drn_take 2 (.slice p6 S.length c6) rfl (by kernel_rfl) (by kernel_rfl) (by kernel_rfl) (fun _ _ _ h => h) (by kernel_rfl) (fun w => by kernel_rfl) ?_
        refine Kit.drn_take 3 (.slice p7 k c7) rfl (by kernel_rfl) (by kernel_rfl) (by kernel_rfl) (fun _ _ _ h => h) (by kernel_rfl) (fun w => by kernel_rfl) ?_
        refine Kit.drn_take 5 (.slice p8 m c8) rfl (by kernel_rfl) (by kernel_rfl) (by kernel_rfl) (fun _ _ _ h => h) (by kernel_rfl) (fun w => by kernel_rfl) ?_
        refine Kit.drn_one 4 rfl (by kernel_rfl) (by kernel_rfl) ?_
        refine Kit.drn_val (w' := v1) (.slice q1 k d1) (Kit.run_app (.const (.slice none 0 0)) (.tmp 136) 22 rfl (by kernel_rfl) (by kernel_rfl) hr1) ?_
        refine Kit.drn_one 6 rfl (by kernel_rfl) (by kernel_rfl) ?_
        refine Kit.drn_val (w' := v2) (.slice q2 S.length d2) (Kit.run_app (.tmp 137) (.tmp 138) 22 rfl (by kernel_rfl) (by kernel_rfl) hr2) ?_
        refine Kit.drn_one 7 rfl (by kernel_rfl) (by kernel_rfl) ?_
        refine Kit.drn_call 19 #[.slice p6 S.length c6, .slice q2 S.length d2] (.bool true) (R := fun w' => Below v2.heap.size v2 w') (by kernel_rfl) (CI.out.mono fun e w' h => ⟨by rw [h.1]; simp, h.2⟩) ?_
        intro v3 hv3
        refine Kit.drn_take 8 (.bool true) rfl (by kernel_rfl) (by kernel_rfl) (by kernel_rfl) (fun _ _ _ h => h) (by kernel_rfl) (fun w => by kernel_rfl) ?_
        refine Kit.drn_take 9 (.bool true) rfl (by kernel_rfl) (by kernel_rfl) (by kernel_rfl) (fun _ _ _ h => h) (by kernel_rfl) (fun w => by kernel_rfl) ?_
        refine Kit.drn_take 10 (.string (bs (fins A S))) rfl (by kernel_rfl) (by kernel_rfl) (by kernel_rfl) (fun _ _ _ h => h) (by kernel_rfl) (fun w => by kernel_rfl) ?_
        refine Kit.drn_take 11 (.string (bs (fins A S))) rfl (by kernel_rfl) (by kernel_rfl) (by kernel_rfl) (fun _ _ _ h => h) (by kernel_rfl) (fun w => by kernel_rfl) ?_
        refine Kit.drn_take 12 (.bool true) rfl (by kernel_rfl) (by kernel_rfl) (by kernel_rfl) (fun _ _ _ h => h) (by kernel_rfl) (fun w => Kit.run_same_text (x := .tmp 143) (y := .tmp 144) (bs (fins A S)) rfl (by kernel_rfl) (by kernel_rfl) w) ?_
        refine Kit.drn_take 13 (.bool true) rfl (by kernel_rfl) (by kernel_rfl) (by kernel_rfl) (fun _ _ _ h => h) (by kernel_rfl) (fun w => by kernel_rfl) ?_
        refine Kit.drn_take 14 (.bool true) rfl (by kernel_rfl) (by kernel_rfl) (by kernel_rfl) (fun _ _ _ h => h) (by kernel_rfl) (fun w => by kernel_rfl) ?_
        refine Kit.drn_take 15 (.int .i64 (k : Int)) rfl (by kernel_rfl) (by kernel_rfl) (by kernel_rfl) (fun _ _ _ h => h) (by kernel_rfl) (fun w => by kernel_rfl) ?_
        refine Kit.drn_take 16 (.bool false) rfl (by kernel_rfl) (by kernel_rfl) (by kernel_rfl) (fun _ _ _ h => h) (by kernel_rfl) (fun w => Kit.run_eq_int (x := .tmp 148) (y := .const (.int .i64 0)) (k := .i64) (m := (k : Int)) (n := 0) false rfl (by kernel_rfl) (by kernel_rfl) hkz w) ?_
        refine Kit.drn_take 17 (.bool false) rfl (by kernel_rfl) (by kernel_rfl) (by kernel_rfl) (fun _ _ _ h => h) (by kernel_rfl) (fun w => by kernel_rfl) ?_
        refine Kit.drn_take 18 (.string (bs B)) rfl (by kernel_rfl) (by kernel_rfl) (by kernel_rfl) (fun _ _ _ h => h) (by kernel_rfl) (fun w => by kernel_rfl) ?_
        refine Kit.drn_take 19 (.int .u8 (((bs B)[0]'hB0).toNat : Int)) rfl (by kernel_rfl) (by kernel_rfl) (by kernel_rfl) (fun _ _ _ h => h) (by kernel_rfl) (fun w => Kit.run_index_text (x := .tmp 151) (y := .const (.int .i64 0)) Try.underlying9 (bs B) 0 hB0 rfl (by kernel_rfl) (by kernel_rfl) w) ?_
        refine Kit.drn_take 20 (.string (bs S)) rfl (by kernel_rfl) (by kernel_rfl) (by kernel_rfl) (fun _ _ _ h => h) (by kernel_rfl) (fun w => by kernel_rfl) ?_
        refine Kit.drn_take 21 (.int .i64 (k : Int)) rfl (by kernel_rfl) (by kernel_rfl) (by kernel_rfl) (fun _ _ _ h => h) (by kernel_rfl) (fun w => by kernel_rfl) ?_
        refine Kit.drn_take 22 (.int .i64 ((k - 1 : Nat) : Int)) rfl (by kernel_rfl) (by kernel_rfl) (by kernel_rfl) (fun _ _ _ h => h) (by kernel_rfl) (fun w => Kit.run_sub_one (x := .tmp 154) k hk1 hk2 rfl (by kernel_rfl) (by kernel_rfl) w) ?_
        refine Kit.drn_take 23 (.int .u8 (((bs S)[k - 1]'hS0).toNat : Int)) rfl (by kernel_rfl) (by kernel_rfl) (by kernel_rfl) (fun _ _ _ h => h) (by kernel_rfl) (fun w => Kit.run_index_text (x := .tmp 153) (y := .tmp 155) Try.underlying9 (bs S) (k - 1) hS0 rfl (by kernel_rfl) (by kernel_rfl) w) ?_
        refine Kit.drn_take 24 (.bool true) rfl (by kernel_rfl) (by kernel_rfl) (by kernel_rfl) (fun _ _ _ h => h) (by kernel_rfl) (fun w => Kit.run_eq_int (x := .tmp 152) (y := .tmp 156) (k := .u8) (m := (((bs B)[0]'hB0).toNat : Int)) (n := (((bs S)[k - 1]'hS0).toNat : Int)) true rfl (by kernel_rfl) (by kernel_rfl) hBS w) ?_
        refine Kit.drn_take 25 (.bool true) rfl (by kernel_rfl) (by kernel_rfl) (by kernel_rfl) (fun _ _ _ h => h) (by kernel_rfl) (fun w => by kernel_rfl) ?_
        refine Kit.drn_take 26 (.bool true) rfl (by kernel_rfl) (by kernel_rfl) (by kernel_rfl) (fun _ _ _ h => h) (by kernel_rfl) (fun w => by kernel_rfl) ?_
        refine Kit.drn_take 27 (.bool true) rfl (by kernel_rfl) (by kernel_rfl) (by kernel_rfl) (fun _ _ _ h => h) (by kernel_rfl) (fun w => by kernel_rfl) ?_
        refine wpAny_done (by kernel_rfl) ?_ _
        go_wp2
        refine bodyPost_ret (v := .bool true) (by kernel_rfl) (by kernel_rfl) ⟨rfl, HB2.out.trans (hv3.mono z2)⟩

set_option maxRecDepth 100000 in
set_option maxHeartbeats 400000 in
theorem lifted (os : Os) (started : os.Started) (H : Type) (enc : TypeId × Value → H) :
    ReturnsInHanded {} Try.checked os 5 .any (Rows.frontPartsSpec.pre6 enc Try.prog Try.f5 Rows.frontPartsRow.domain false) (Rows.frontPartsSpec.post enc Try.prog Try.f5 false true false false) := by
  refine returnsInHanded_of_change (C := Try.checked) own started (by kernel_rfl) Try.func5
    (ChangeSpec.witness6 (enc := enc) (C := Try.checked) false ⟨#[], #[.string ByteArray.empty, .slice none 0 0, .int .i64 0], []⟩ 8 (by kernel_rfl) (by kernel_rfl) (by kernel_rfl) (by kernel_rfl)) ?_
  intro W base args ds gs before hval0 hW hcnd _
  have hval : ∀ (j : Nat) t v, Try.f5.params[j]? = some t → args[j]? = some v → Value.okWide Try.prog W .any base t v := hval0
  have hW' := hW
  obtain ⟨p, q, hA0, hV, rfl, hfz, hnd⟩ := hW
  have hA : DataW.TrodAll enc Try.prog W 0 (fun _ => true) true Try.f5.params.toList args.toList ds p := hA0
  rw [Try.params5] at hA hval
  obtain ⟨v0, vs0, d0, ds0, p0, q0, hargs, rfl, rfl, h0, r0⟩ := trodAll_cons hA
  obtain ⟨v1, vs1, d1, ds1, p1, q1, rfl, rfl, rfl, h1, r1⟩ := trodAll_cons r0
  obtain ⟨v2, vs2, d2, ds2, p2, q2, rfl, rfl, rfl, h2, r2⟩ := trodAll_cons r1
  obtain ⟨rfl, rfl, rfl⟩ := trodAll_nil r2
  obtain rfl : args = #[v0, v1, v2] := by cases args; simp_all
  obtain ⟨rfl, rfl⟩ := trodVars_none hV
  obtain ⟨a0, rfl, rfl, rfl, w0⟩ := open_string Try.underlying9 (hval 0 9 v0 rfl rfl) h0
  obtain ⟨a1, len1, cap1, rfl⟩ := okWide_slice Try.underlying22 (hval 1 22 v1 rfl rfl)
  have k1 := h1
  have lt1 : ∀ x ∈ p1, x.block < W.heap.size := by obtain ⟨m, hm⟩ := k1; exact DataW.trod_lt m _ _ _ hm
  obtain ⟨z1, w1⟩ : ∃ zs, IsRow .i64 W a1 len1 cap1 zs := by
    obtain ⟨fuel, hf⟩ := h1
    rcases open_ints Try.underlying22 Try.underlying3 (by kernel_rfl) hf with ⟨hcs, _⟩ | ⟨x, l, c, zs, hcs, _, hl, hm, hz, _, hcell, hwz⟩
    · simp [Value.cells] at hcs
      obtain ⟨rfl, rfl, rfl⟩ := hcs
      exact ⟨[], .inl ⟨rfl, rfl, rfl, rfl⟩⟩
    · simp [Value.cells] at hcs
      obtain ⟨rfl, rfl, rfl⟩ := hcs
      exact ⟨zs, .inr ⟨_, rfl, hl, hm, by simpa using hz, hcell, hwz⟩⟩
  obtain ⟨a2, rfl, rfl, rfl, w2⟩ := open_int Try.underlying3 (hval 2 3 v2 rfl rfl) h2
  clear hA0 hval0
  refine (walk a0 a1 len1 cap1 z1 a2 W w0 w1 w2).mono fun e W' ⟨he, bel⟩ => ?_
  subst he
  exact ⟨_, rfl, _, _, _, [], _, [], hW', trodAll_mk1 (shut_bool Try.underlying4 _), (trodAll_cons_mk (shut_string Try.underlying9 w0) (trodAll_cons_mk (Below.trod laidOut (by kernel_rfl) (of_decide_eq_true (by kernel_rfl)) k1 bel lt1) (trodAll_cons_mk (shut_int Try.underlying3 w2) trodAll_mk0))), rfl, bel.frame _, fun h => by cases h⟩

theorem over : Rows.frontPartsRow.holds Try.pinned (OpenSpec.ofChange Rows.frontPartsSpec) :=
  OpenClaim.holds_of_wide 5 Try.f5 rfl rfl rfl rfl rfl rfl rfl ⟨rfl, rfl, rfl, rfl, rfl⟩ rfl rfl rfl rfl rfl (by kernel_rfl) Try.func5 (by kernel_rfl)
    (of_decide_eq_true (by kernel_rfl)) (by unfold Func.isWrapper; first | (rw [if_pos (by decide +kernel)]; kernel_rfl) | (rw [if_neg (by decide +kernel)]; exact ⟨rfl, rfl⟩))
    (fun os started H enc _ => lifted os started H enc)

theorem proved : Rows.FrontPartsSaid := over
#print axioms proved
end Go.Proofs.Ytlanididnlmnhaa.frontParts
