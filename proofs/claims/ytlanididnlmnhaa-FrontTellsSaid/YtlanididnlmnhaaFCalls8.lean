/- Contracts of layer 5 (front), eighth part: the document's front, told, Front, After, Back. -/
import Derived.Test.YtlanididnlmnhaaFCalls7
import Derived.BigQuiet
import Derived.WalkSmall
namespace Go.Proofs.Ytlanididnlmnhaa
namespace Front
open Go.RowKit
open Kit (bval)
set_option linter.unusedVariables false

/-- A list of bytes as a text. -/
@[irreducible] def bs (l : T) : ByteArray := ⟨l.toArray⟩
theorem bs_of (s : ByteArray) : bs s.data.toList = s := by unfold bs; simp
theorem bs_eq (l : T) : (⟨l.toArray⟩ : ByteArray) = bs l := by unfold bs; rfl
theorem bs_list (l : T) : (bs l).data.toList = l := by unfold bs; simp
theorem bs_size (l : T) : (bs l).size = l.length := by rw [← len_text, bs_list]
theorem list_inj {s t : ByteArray} (h : s.data.toList = t.data.toList) : s = t := by rw [← bs_of s, ← bs_of t, h]
theorem list_append (s t : ByteArray) : (s ++ t).data.toList = s.data.toList ++ t.data.toList := by simp
theorem list_extract (s : ByteArray) (i j : Nat) : (s.extract i j).data.toList = (s.data.toList.take j).drop i := by
  rw [ByteArray.data_extract, Array.toList_extract, List.extract_eq_take_drop, List.drop_take]
theorem bring_text (s : ByteArray) (k : Nat) (hk : k < s.size) : s.extract k (k + 1) ++ s.extract 0 k ++ s.extract (k + 1) s.size = bs (bring s.data.toList k) := by
  apply list_inj
  rw [list_append, list_append, list_extract, list_extract, list_extract, bs_list]
  have hkl : k < s.data.toList.length := by rw [len_text]; exact hk
  unfold bring
  rw [getD_at _ k hkl, List.eraseIdx_eq_take_drop_succ]
  rw [List.take_succ_eq_append_getElem hkl, List.drop_append_of_le_length (by simp; omega)]
  rw [List.drop_of_length_le (by simp; omega), List.nil_append, List.drop_zero]
  rw [List.take_of_length_le (l := s.data.toList) (i := s.size) (by rw [len_text]; omega)]
  rfl

set_option maxRecDepth 100000 in
set_option maxHeartbeats 1000000 in
theorem rfront_any (s : ByteArray) (k : Nat) (hk : k < s.size) (hs : s.size ≤ maxLen) (w : World) :
    Calls Try.prog 26 #[.string s, .int .i64 (k : Int)] w fun e w' => e = .returned (.string (bs (bring s.data.toList k))) ∧ Below w.heap.size w w' := by
  unfold maxLen at hs
  have i1 : (k : Int) + 1 ≤ (s.size : Int) := by omega
  have hbt := bring_text s k hk
  have HBT := Lib.hid hbt
  clear hbt
  go_enter Try.func26, Try.ntmps26
  go_wp2
  go_quiet (fail)
  rw [HBT.out]
  go_wp2
  go_ret
  exact ⟨rfl, below_drewN (Below.refl _ _) _⟩

/-- What the document's told answers. -/
def RToldPost (a s : T) (w : World) (e : Ending) (w' : World) : Prop :=
  ∃ p c, e = .returned (.tuple #[.slice p (resF a s).length c, .string (bs (resA a s)), .int .i64 (codeF a s)]) ∧ Kit.Src w' p ((resF a s).map ival) ∧ Below w.heap.size w w'

set_option maxRecDepth 100000 in
set_option maxHeartbeats 1000000 in
theorem rtold_any (a s : ByteArray) (ha : a.size ≤ 1000) (hs : s.size ≤ 1000) (w : World) :
    Calls Try.prog 24 #[.string a, .string s] w (RToldPost a.data.toList s.data.toList w) := by
  go_enter Try.func24, Try.ntmps24
  go_wp2_with fail
  refine (rright_any a (by unfold maxLen; omega) _).mono ?_
  rintro e w1 ⟨rfl, rfl⟩
  have hnil : (⟨#[]⟩ : ByteArray) = bs [] := by unfold bs; rfl
  have HNIL := Lib.hid hnil
  clear hnil
  by_cases hr : right a.data.toList = true
  · rw [hr]
    have HR := Lib.hid hr
    clear hr
    have hst : RowKit.Hid (a = bs (fins a.data.toList (s.data.toList.take 0))) := Lib.hid (bs_of a).symm
    go_wp2
    go_loopw [8, 9, 10] (fun o v i wr => ∃ (k : Nat) (p : Option Addr) (c : Nat), k ≤ s.size ∧ i = .int .i64 k ∧ v = .slice p k c ∧ o = .string (bs (fins a.data.toList (s.data.toList.take k))) ∧ RowKit.Hid (Kit.Own wr w.heap.size 3 p k c ((plcs a.data.toList (s.data.toList.take k)).map ival)) ∧ RowKit.Hid (all a.data.toList (s.data.toList.take k) = true) ∧ Below w.heap.size w wr) (fun _ _ i _ => s.size - (intOf i).toNat)
    case atStart => exact ⟨0, none, 0, by omega, rfl, rfl, by rw [← hst.out], Kit.Own.start _ _ _, Lib.hid rfl, Below.refl _ _⟩
    case round =>
      obtain ⟨k, p, c, hk, rfl, rfl, rfl, hown, hal, hb⟩ := hrel
      by_cases hlt : k < s.size
      · obtain ⟨F, hF⟩ : ∃ F, fins a.data.toList (s.data.toList.take k) = F := ⟨_, rfl⟩
        rw [hF]
        have hFl : F.length = a.size := by rw [← hF, fins_length _ _ hal.out, len_text]
        have hmem : s[k] ∈ F ↔ s[k] ∈ a.data.toList := by rw [← hF]; exact fins_mem _ _ hal.out _
        have HF := Lib.hid hF
        have HFL := Lib.hid hFl
        have HMEM := Lib.hid hmem
        clear hF hFl hmem
        go_wp2_with fail
        refine (place_any (bs F) s[k] (by rw [bs_size, HFL.out]; unfold maxLen; omega) _).mono ?_
        rintro e w2 ⟨rfl, rfl⟩
        rw [bs_list]
        by_cases hin : s[k] ∈ F
        · have hp : plcI F s[k] = (F.idxOf s[k] : Int) := by unfold plcI; rw [if_pos hin]
          have hlti := List.idxOf_lt_length_of_mem hin
          obtain ⟨q, hq⟩ : ∃ q, F.idxOf s[k] = q := ⟨_, rfl⟩
          rw [hq] at hp hlti
          have HQ := Lib.hid hq
          have HIN := Lib.hid hin
          have HLT := Lib.hid hlti
          clear hin hq hlti
          rw [hp]
          clear hp
          have hz := hb.size
          obtain ⟨p3, c3, w3, hr3, ho3, hg3⟩ := Kit.Own.app (ty := 22) (w := wr.alloc (.cells #[.int .i64 (q : Int)] 3)) one_int (hown.out.alloc _) (some ⟨wr.heap.size, 0, none⟩) 1 1 [ival q] (Kit.new_one wr _ 3) rfl (fun h => by cases h) (ival_one [q]) (by unfold maxLen; omega) (by omega) (by simp; omega)
          have hb3 : Below w.heap.size w w3 := hb.trans (((Below.refl _ _).alloc hz _).trans ((Below.refl _ _).grown hg3 (by simp; omega) (fun q hq => hown.out.block q hq)))
          have HO3 := Lib.hid ho3
          have HB3 := Lib.hid hb3
          clear ho3 hb3 hg3
          have i0 : (0 : Int) ≤ (q : Int) := by omega
          go_wp2_with (at_builtin; refine Kit.app_eq rfl (.tmp 30) (.tmp 32) 22 rfl rfl rfl hr3 ?_)
          refine (rfront_any (bs F) q (by rw [bs_size]; exact HLT.out) (by rw [bs_size, HFL.out]; unfold maxLen; omega) _).mono ?_
          rintro e w4 ⟨rfl, hb4⟩
          rw [bs_list]
          go_wp2
          go_roundw
          case rel =>
            have e1 : s.data.toList.take (k + 1) = s.data.toList.take k ++ [s[k]] := List.take_succ_eq_append_getElem (by rw [len_text]; exact hlt)
            refine ⟨k + 1, p3, c3, by omega, by go_num, rfl, ?_, ?_, ?_, HB3.out.trans (hb4.mono (by have := HB3.out.size; omega))⟩
            · rw [e1, fins_snoc, HF.out, mtf_bring F _ HIN.out, HQ.out]
            · rw [e1, plcs_snoc, HF.out, HQ.out, List.map_append]
              exact Lib.hid (HO3.out.below hb4 (Nat.le_refl _))
            · rw [e1, all_snoc, hal.out, Bool.true_and, decide_eq_true_eq]
              exact Lib.hid (HMEM.out.1 HIN.out)
          case measure => simp [intOf]; omega
        · have hp : plcI F s[k] = -1 := by unfold plcI; rw [if_neg hin]
          have HIN := Lib.hid hin
          clear hin
          rw [hp]
          clear hp
          have hno2 : all a.data.toList s.data.toList = false := by
            rw [Bool.eq_false_iff]
            intro h
            rw [all_iff] at h
            exact HIN.out (HMEM.out.2 (h _ (by rw [← get_text s k hlt]; exact List.getElem_mem _)))
          have hc := codeF_none _ _ HR.out hno2
          have HC := Lib.hid hc
          have e1 := Lib.hid (resA_nil a.data.toList s.data.toList (by rw [hc]; decide))
          have e2 := Lib.hid (resF_nil a.data.toList s.data.toList (by rw [hc]; decide))
          clear hc hno2
          go_wp2
          try simp only [Exit.inBlock, Exit.then]
          refine bodyPost_ret (results_tmp3 rfl _ _ _) rfl ?_
          exact ⟨none, 0, by rw [HC.out, e1.out, e2.out, ← HNIL.out]; rfl, src_nil _ _ _ (by rw [e2.out]; rfl), hb⟩
      · have hfull : s.data.toList.take k = s.data.toList := List.take_of_length_le (by rw [len_text]; omega)
        rw [hfull] at hown hal ⊢
        have hc := codeF_ok _ _ HR.out hal.out
        have HC := Lib.hid hc
        have e1 := Lib.hid (resA_ok a.data.toList s.data.toList hc)
        have e2 := Lib.hid (resF_bad a.data.toList s.data.toList hc)
        have e3 : RowKit.Hid (k = s.size) := Lib.hid (by omega)
        clear hc hfull
        go_wp2
        try simp only [Exit.inBlock, Exit.then]
        refine bodyPost_ret (results_tmp3 rfl _ _ _) rfl ?_
        exact ⟨p, c, by rw [HC.out, e1.out, e2.out, plcs_length, len_text, e3.out]; rfl, by rw [e2.out]; exact hown.out.src, hb⟩
  · rw [Bool.not_eq_true] at hr
    rw [hr]
    have hc := codeF_bad a.data.toList s.data.toList hr
    have HC := Lib.hid hc
    have e1 := Lib.hid (resA_nil a.data.toList s.data.toList (by rw [hc]; decide))
    have e2 := Lib.hid (resF_nil a.data.toList s.data.toList (by rw [hc]; decide))
    clear hc
    go_wp2
    try simp only [Exit.inBlock, Exit.then]
    refine bodyPost_ret (results_tmp3 rfl _ _ _) rfl ?_
    exact ⟨none, 0, by rw [HC.out, e1.out, e2.out, ← HNIL.out]; rfl, src_nil _ _ _ (by rw [e2.out]; rfl), Below.refl _ _⟩
end Front
end Go.Proofs.Ytlanididnlmnhaa
