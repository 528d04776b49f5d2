/- Contracts of layer 5 (front), eleventh part: pick, Alphabet, Text. -/
import Derived.Test.YtlanididnlmnhaaFCalls10
namespace Go.Proofs.Ytlanididnlmnhaa
namespace Front
open Go.RowKit
open Kit (bval)
set_option linter.unusedVariables false

set_option maxRecDepth 100000 in
set_option maxHeartbeats 400000 in
theorem pick_any (c n : Int) (w : World) (h1 : -9223372036854775808 ≤ c) (h2 : c ≤ 9223372036854775807) (h3 : 1 ≤ n) (h4 : n ≤ 9223372036854775807) :
    Calls Try.prog 11 #[.int .i64 c, .int .i64 n] w fun e w' => e = .returned (.int .i64 (pk c n)) ∧ w = w' := by
  have hpk : pk c n = if c < 0 then -(c + 1) % n else c % n := by unfold pk; rfl
  have HP := Lib.hid hpk
  clear hpk
  have hn : (n == 0) = false := by simp; omega
  by_cases hc : c < 0
  all_goals
    go_enter Try.func11, Try.ntmps11
    go_wp2
    go_ret
    refine ⟨ret_int ?_, rfl⟩
    rw [HP.out]
    first
      | (rw [if_pos hc, ← Int.neg_tmod, Int.tmod_eq_emod_of_nonneg (by omega)])
      | rw [if_neg (by omega)]

theorem bs_char (s : ByteArray) (k : Nat) (hk : k < s.size) : s.extract k (k + 1) = bs [s[k]] := by
  have h := bs_one s.data.toList k (by rw [len_text]; exact hk)
  rw [bs_of, getD_at _ k (by rw [len_text]; exact hk), get_text s k hk] at h
  exact h

set_option maxRecDepth 100000 in
set_option maxHeartbeats 1000000 in
theorem alphabet_any (s : ByteArray) (hs : s.size ≤ maxLen) (w : World) :
    Calls Try.prog 10 #[.string s] w fun e w' => e = .returned (.string (bs (alpha s.data.toList))) ∧ w = w' := by
  unfold maxLen at hs
  have hnil : (⟨#[]⟩ : ByteArray) = bs [] := by unfold bs; rfl
  have HNIL := Lib.hid hnil
  clear hnil
  go_enter Try.func10, Try.ntmps10
  go_wp2
  go_loop [3, 4] (fun o i => ∃ k : Nat, k ≤ s.size ∧ i = .int .i64 k ∧ o = .string (bs (alpha (s.data.toList.take k)))) (fun _ i => s.size - (intOf i).toNat)
  case atStart => exact ⟨0, by omega, rfl, by rw [HNIL.out]; rfl⟩
  case round =>
    obtain ⟨k, hk, rfl, rfl⟩ := hrel
    obtain ⟨O, hO⟩ : ∃ O, alpha (s.data.toList.take k) = O := ⟨_, rfl⟩
    have hlen : O.length ≤ 30 := by rw [← hO]; exact alpha_len _
    have hnod : O.Nodup := by rw [← hO]; exact alpha_nodup _
    rw [hO]
    obtain ⟨S, hS⟩ : ∃ S, bs O = S := ⟨_, rfl⟩
    have hsz : S.size = O.length := by rw [← hS, bs_size]
    have hs30 : S.size ≤ 30 := by omega
    rw [hS]
    have HO := Lib.hid hO
    have HS := Lib.hid hS
    have HN := Lib.hid hnod
    have HSZ := Lib.hid hsz
    clear hO hS hnod hsz hlen
    by_cases hlt : k < s.size
    · by_cases h30 : S.size < 30
      · have hch := bs_char s k hlt
        have hj : S ++ s.extract k (k + 1) = bs (O ++ [s[k]]) := by rw [← HS.out, hch, bs_append]
        have HJ := Lib.hid hj
        clear hj hch
        have hstep : alpha (s.data.toList.take (k + 1)) = astep O s[k] := by
          rw [List.take_succ_eq_append_getElem (by rw [len_text]; exact hlt), alpha_snoc, HO.out]; rfl
        have HST := Lib.hid hstep
        clear hstep
        go_wp2_with fail
        rw [HJ.out]
        refine (rright_any (bs (O ++ [s[k]])) (by rw [bs_size, List.length_append]; unfold maxLen; have := HSZ.out; simp; omega) _).mono ?_
        rintro e w1 ⟨rfl, rfl⟩
        rw [bs_list, right_snoc O _ HN.out]
        by_cases hin : s[k] ∈ O
        · rw [decide_eq_true hin]
          have HIN := Lib.hid hin
          clear hin
          go_wp2
          go_round
          case rel =>
            refine ⟨k + 1, by omega, by go_num, ?_⟩
            rw [HST.out]
            unfold astep
            rw [if_neg (by intro h; exact h.2 HIN.out), HS.out]
          case measure => simp [intOf]; omega
        · rw [decide_eq_false hin]
          have HIN := Lib.hid hin
          clear hin
          go_wp2
          go_round
          case rel =>
            refine ⟨k + 1, by omega, by go_num, ?_⟩
            rw [HST.out, HJ.out]
            unfold astep
            rw [if_pos ⟨by have := HSZ.out; omega, HIN.out⟩]
          case measure => simp [intOf]; omega
      · go_wp2
        go_ret
        refine ⟨?_, rfl⟩
        rw [alpha_full s.data.toList k (by rw [HO.out]; have := HSZ.out; omega), HO.out, HS.out]; rfl
    · have hfull : s.data.toList.take k = s.data.toList := List.take_of_length_le (by rw [len_text]; omega)
      have hal : alpha s.data.toList = O := by rw [← HO.out, hfull]
      have HAL := Lib.hid hal
      clear hal hfull
      go_wp2
      go_ret
      exact ⟨by rw [HAL.out, HS.out]; rfl, rfl⟩

theorem text_length0 (a : T) (raw : List Int) : (text a raw).length ≤ raw.length := by
  unfold text; split <;> simp
set_option maxRecDepth 100000 in
set_option maxHeartbeats 1000000 in
theorem text_any (a : ByteArray) (ha : a.size ≤ 1000) (p : Option Addr) (c n : Nat) (l : List Int) (hl : l.length = n) (most : Nat) (hm : most ≤ 1000) (hn : n ≤ maxLen) (w : World) (hsrc : Kit.Src w p (l.map inum))
    (hbd : ∀ x ∈ l, -9223372036854775808 ≤ x ∧ x ≤ 9223372036854775807) :
    Calls Try.prog 14 #[.string a, .slice p n c, .int .i64 (most : Int)] w fun e w' => e = .returned (.string (bs (text a.data.toList (l.take most)))) ∧ w = w' := by
  unfold maxLen at hn
  have hnil : (⟨#[]⟩ : ByteArray) = bs [] := by unfold bs; rfl
  have HNIL := Lib.hid hnil
  have HSRC := Lib.hid hsrc
  have HBD := Lib.hid hbd
  have HL := Lib.hid hl
  clear hnil hsrc hbd hl
  go_enter Try.func14, Try.ntmps14
  go_wp2
  go_loop [7, 8] (fun o i => ∃ k : Nat, k ≤ n ∧ k ≤ most ∧ i = .int .i64 k ∧ o = .string (bs (text a.data.toList (l.take k)))) (fun _ i => n - (intOf i).toNat)
  case atStart =>
    refine ⟨0, by omega, by omega, rfl, ?_⟩
    rw [HNIL.out]
    have : text a.data.toList (l.take 0) = [] := by unfold text; simp
    rw [this]
  case round =>
    obtain ⟨k, hk, hkm, rfl, rfl⟩ := hrel
    have hx := text_length0 a.data.toList (l.take k)
    rw [List.length_take] at hx
    obtain ⟨O, hO⟩ : ∃ O, text a.data.toList (l.take k) = O := ⟨_, rfl⟩
    rw [hO] at hx
    have hos : (bs O).size ≤ 1000 := by rw [bs_size]; omega
    rw [hO]
    have HO := Lib.hid hO
    clear hO hx
    by_cases hlt : k < n
    · have hkl : k < l.length := by rw [HL.out]; exact hlt
      obtain ⟨b0, off, rfl, hbl, hcell⟩ := src_at HSRC.out k hkl
      by_cases hlm : k < most
      · have hadr : ∀ x, a.toList = x → a.data.toList = x := fun x h => by rw [← h, Lib.toList_data]
        by_cases h0 : a.size = 0
        · have he : a.data.toList = [] := List.eq_nil_of_length_eq_zero (by rw [len_text]; exact h0)
          have he2 : a.toList.isEmpty = true := by rw [Lib.toList_data, he]; rfl
          have htx : ∀ m, text a.data.toList m = [] := by intro m; unfold text; rw [if_pos he]
          have HTX := Lib.hid htx
          clear he htx hadr
          go_wp2
          go_ret
          refine ⟨?_, rfl⟩
          rw [HTX.out, ← HTX.out (l.take k), HO.out]; rfl
        · have hne : ¬ a.data.toList = [] := by intro e; apply h0; rw [← len_text, e]; rfl
          have he2 : a.toList.isEmpty = false := by
            rw [Lib.toList_data]
            cases hl : a.data.toList with
            | nil => exact absurd hl hne
            | cons _ _ => rfl
          obtain ⟨l1, l2⟩ := HBD.out _ (List.getElem_mem hkl)
          obtain ⟨q, hq⟩ : ∃ q : Nat, pk l[k] (a.size : Int) = (q : Int) := Int.eq_ofNat_of_zero_le (pk_lo l[k] (a.size : Int) (by omega))
          have hqa : q < a.size := by have := pk_hi l[k] (a.size : Int) (by omega); omega
          have hone := bs_one a.data.toList q (by rw [len_text]; exact hqa)
          rw [bs_of] at hone
          have hj : bs O ++ a.extract q (q + 1) = bs (O ++ [a.data.toList.getD q 0]) := by rw [hone, bs_append]
          have htx : text a.data.toList (l.take (k + 1)) = O ++ [a.data.toList.getD q 0] := by
            rw [List.take_succ_eq_append_getElem hkl, text_snoc _ _ _ hne, HO.out, len_text, hq]; rfl
          have HTX := Lib.hid htx
          have HJ := Lib.hid hj
          have HQ := Lib.hid hq
          have HNE := Lib.hid hne
          clear hj hone htx hne hadr hq
          obtain ⟨x, hx⟩ : ∃ x, l[k] = x := ⟨_, rfl⟩
          rw [hx] at hcell l1 l2 HQ
          clear hx
          go_wp2_with fail
          refine (pick_any x (a.size : Int) _ l1 l2 (by omega) (by omega)).mono ?_
          rintro e w1 ⟨rfl, rfl⟩
          rw [HQ.out]
          go_wp2
          go_round
          case rel => exact ⟨k + 1, by omega, by omega, by go_num, by rw [HJ.out, HTX.out]⟩
          case measure => simp [intOf]; omega
      · have hfull : l.take most = l.take k := by rw [show most = k from by omega]
        have HF := Lib.hid hfull
        clear hfull
        go_wp2
        go_ret
        exact ⟨by rw [HF.out, HO.out]; rfl, rfl⟩
    · have hfull : l.take most = l.take k := by rw [List.take_of_length_le (by rw [HL.out]; omega), List.take_of_length_le (by rw [HL.out]; omega)]
      have HF := Lib.hid hfull
      clear hfull
      go_wp2
      go_ret
      exact ⟨by rw [HF.out, HO.out]; rfl, rfl⟩
end Front
end Go.Proofs.Ytlanididnlmnhaa
