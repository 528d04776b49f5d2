/- The contract of the function that goes through a text's pieces (chapter 4). -/
import Derived.Test.YthdpcjahficlnaaRRange
namespace Go.Proofs.Ythdpcjahficlnaa
namespace Rle
open Go.RowKit Go.Shelf
set_option linter.unusedVariables false
attribute [local go_sem] Oper.semAt_some

/-- A list of bytes as a text. -/
@[irreducible] def bs (l : T) : ByteArray := ⟨l.toArray⟩
theorem bs_of (s : ByteArray) : bs s.data.toList = s := by unfold bs; simp
theorem bs_eq (l : T) : (⟨l.toArray⟩ : ByteArray) = bs l := by unfold bs; rfl
theorem bs_list (l : T) : (bs l).data.toList = l := by unfold bs; simp
theorem len_text (s : ByteArray) : s.data.toList.length = s.size := by simp
theorem bs_size (l : T) : (bs l).size = l.length := by rw [← len_text, bs_list]
theorem list_inj {s t : ByteArray} (h : s.data.toList = t.data.toList) : s = t := by rw [← bs_of s, ← bs_of t, h]
theorem list_append (s t : ByteArray) : (s ++ t).data.toList = s.data.toList ++ t.data.toList := by simp
theorem bs_append (l m : T) : bs (l ++ m) = bs l ++ bs m := by apply list_inj; rw [list_append, bs_list, bs_list, bs_list]
theorem list_extract (s : ByteArray) (i j : Nat) : (s.extract i j).data.toList = (s.data.toList.take j).drop i := by
  rw [ByteArray.data_extract, Array.toList_extract, List.extract_eq_take_drop, List.drop_take]
theorem bs_take (l : T) (k : Nat) : (bs l).extract 0 k = bs (l.take k) := by
  apply list_inj; rw [list_extract, bs_list, bs_list, List.drop_zero]
theorem bs_drop (l : T) (k : Nat) : (bs l).extract k (bs l).size = bs (l.drop k) := by
  apply list_inj; rw [list_extract, bs_list, bs_list, bs_size, List.take_length]
theorem get_text (s : ByteArray) (k : Nat) (h : k < s.size) : s.data.toList[k]'(by rw [len_text]; exact h) = s[k] := rfl
theorem byte_beq (x y : UInt8) : ((x.toNat : Int) == (y.toNat : Int)) = decide (x = y) := by
  rw [Bool.eq_iff_iff, beq_iff_eq, decide_eq_true_eq]
  exact ⟨fun h => UInt8.toNat_inj.1 (by omega), fun h => by rw [h]⟩

def leftAt (b : Nat) (w : World) : Nat := match w.cell? ⟨b, 0, none⟩ with
  | some (.string t) => t.size
  | _ => 0
theorem leftAt_eq {b : Nat} {w : World} {t : ByteArray} {ty : TypeId} (h : Boxed w b ty (.string t)) : leftAt b w = t.size := by unfold leftAt; rw [h.cell]
theorem boxed_drewN {W : World} {B : Nat} {t : TypeId} {v : Value} (h : Boxed W B t v) (n : Nat) : Boxed (W.drewN n) B t v := h

set_option maxRecDepth 100000 in
set_option maxHeartbeats 2000000 in
theorem pieces_seq (b : Nat) (s : ByteArray) (hs : s.size ≤ 100000) (W : World) (hbox : Boxed W b 9 (.string s)) :
    Seq1 Try.prog 21 #[.pointer (some ⟨b, 0, none⟩)] (fun p : T => .string (bs p)) b (pcs s.data.toList) W := by
  intro l J Jx hJ hY h0
  refine callsIn_of_wp Try.func21 rfl trivial ?_ rfl
  simp only [Try.ntmps21, List.size_toArray, List.length_cons, List.length_nil, Nat.reduceAdd, Nat.reduceSub, Array.replicate_succ, Array.replicate_zero, List.push_toArray, List.append_toArray, List.nil_append, List.cons_append]
  have HBOX := Lib.hid hbox
  have HJ := Lib.hid hJ
  have HY := Lib.hid hY
  have H0 := Lib.hid h0
  clear hbox hJ hY h0
  gi_wp2
  gi_loopw [3] (fun v wr => ∃ (pre : List T) (r : T), RowKit.Hid (pcs s.data.toList = pre ++ pcs r) ∧ r.length ≤ s.size ∧ RowKit.Hid (Boxed wr b 9 (.string (bs r))) ∧ RowKit.Hid (J pre wr))
    (fun _ wr => leftAt b wr)
  case atStart => exact ⟨[], s.data.toList, Lib.hid rfl, by rw [len_text]; exact Nat.le_refl _, Lib.hid (by rw [bs_of]; exact HBOX.out), H0⟩
  case round =>
    obtain ⟨pre, r, hpre, hrl, hbx, hJs⟩ := hrel
    have hcb := hbx.out.cell
    have hfb := hbx.out.frozen
    cases r with
    | nil =>
      have he : bs [] = (⟨#[]⟩ : ByteArray) := by unfold bs; rfl
      rw [he] at hcb
      clear he
      gi_wp2
      go_end0
      exact ⟨⟨_, rfl⟩, .inl (by have h := hpre.out; rw [pcs_nil, List.append_nil] at h; rw [h]; exact hJs.out)⟩
    | cons x r =>
      obtain ⟨t, ht⟩ : ∃ t, bs (x :: r) = t := ⟨_, rfl⟩
      have hts : t.size = (x :: r).length := by rw [← ht, bs_size]
      have hemp : t.toList.isEmpty = false := by rw [Lib.toList_data, ← ht, bs_list]; rfl
      have hget : ∀ k (h : k < t.size) (h2 : k < (x :: r).length), t[k] = (x :: r)[k] := by
        intro k h h2; subst ht; rw [← get_text (bs (x :: r)) k h]; simp only [bs_list]
      have hpos : 0 < t.size := by rw [hts]; simp
      have ht100 : t.size ≤ 100000 := by rw [hts]; omega
      obtain ⟨M, hM, hM1, hM2, hM3⟩ := Kit.cut_len t.size 255 255 rfl
      have hMm : min (t.size : Int) 255 = (M : Int) := by have := hM3.out; omega
      rw [ht] at hcb
      have hx0 : t[0]'hpos = x := hget 0 hpos (by simp)
      have HX0 := Lib.hid hx0
      have HT := Lib.hid ht
      have HTS := Lib.hid hts
      have HGET := Lib.hid hget
      clear ht hts hget hx0
      obtain ⟨wo, rfl⟩ : ∃ wo : World, wo = wr := ⟨_, rfl⟩
      gi_wp2
      gi_loopw [3] (fun v wr => ∃ k : Nat, 1 ≤ k ∧ k ≤ M ∧ v = .int .i64 k ∧ RowKit.Hid ((x :: r).take k = List.replicate k x) ∧ RowKit.Hid (∃ m, wr = wo.drewN m))
        (fun v _ => 256 - (intOf v).toNat)
      case atStart => exact ⟨1, Nat.le_refl _, by have := hM3.out; omega, rfl, Lib.hid (by simp), Lib.hid ⟨0, by simp [World.drewN]⟩⟩
      case round =>
        obtain ⟨k, hk1, hkM, rfl, htk, hw⟩ := hrel
        obtain ⟨m0, hm0⟩ := hw.out
        have hbw : Boxed wr b 9 (.string t) := by rw [hm0, ← HT.out]; exact boxed_drewN hbx.out m0
        have HBW := Lib.hid hbw
        have hcw := hbw.cell
        have hfw := hbw.frozen
        have hJw := HJ.out pre wo wr hJs.out (.inl ⟨m0, hm0⟩)
        have HJW := Lib.hid hJw
        clear hbw hm0 hJw
        have j0 : (0 : Int) ≤ (k : Int) := by omega
        have j1 : (0 : Int) ≤ (0 : Int) := by omega
        have j2 : (0 : Int) < (t.size : Int) := by omega
        have hways : (∃ h : k < t.size, k < M ∧ t[k] = t[0]'hpos) ∨ (¬ k < M ∧ run1 (x :: r) = k) ∨ (∃ h : k < t.size, k < M ∧ ¬ t[k] = t[0]'hpos ∧ run1 (x :: r) = k) := by
          have hl := HTS.out
          have hm := hM3.out
          by_cases h1 : k < M
          · have h2 : k < t.size := by omega
            by_cases h3 : t[k] = t[0]'hpos
            · exact .inl ⟨h2, h1, h3⟩
            · refine .inr (.inr ⟨h2, h1, h3, run1_eq x r k hk1 (by omega) (by omega) htk.out (.inr (.inr ⟨by omega, ?_⟩))⟩)
              rw [← HGET.out k h2 (by omega)]
              rw [HX0.out] at h3
              exact h3
          · refine .inr (.inl ⟨h1, run1_eq x r k hk1 (by omega) (by omega) htk.out ?_⟩)
            by_cases h4 : k = 255
            · exact .inl h4
            · exact .inr (.inl (by omega))
        rcases hways with ⟨h2, h1, h3⟩ | hstop
        · have hbe := byte_beq t[k] (t[0]'hpos)
          rw [decide_eq_true h3] at hbe
          have j3 : (k : Int) < (t.size : Int) := by omega
          have hnext : (x :: r).take (k + 1) = List.replicate (k + 1) x := by
            have hl : k < (x :: r).length := by have := HTS.out; omega
            rw [List.take_succ_eq_append_getElem hl, htk.out, ← HGET.out k h2 hl, h3, HX0.out, List.replicate_succ']
          have HNX := Lib.hid hnext
          clear h3 hnext
          gi_wp2
          gi_quiet (fail)
          gi_wp2
          go_roundw
          case rel =>
            obtain ⟨m0, hm0⟩ := hw.out
            exact ⟨k + 1, by omega, by omega, by go_num, HNX, Lib.hid ⟨m0 + nq, by rw [hm0, World.drewN_drewN]⟩⟩
          case measure => simp [intOf]; omega
        · have hrun : run1 (x :: r) = k := by
            rcases hstop with ⟨_, h⟩ | ⟨_, _, _, h⟩ <;> exact h
          have hkl : k ≤ (x :: r).length := by have := HTS.out; omega
          have hsl : t.extract 0 k = bs ((x :: r).take k) := by rw [← HT.out, bs_take]
          have hdr : t.extract k t.size = bs ((x :: r).drop k) := by rw [← HT.out, bs_drop]
          have hp := hpre.out
          rw [pcs_cons (x :: r) (by simp), hrun] at hp
          have HP := Lib.hid hp
          have HRUN := Lib.hid hrun
          have j4 : (k : Int) ≤ (t.size : Int) := by omega
          have HDR := Lib.hid hdr
          have hlast : RowKit.Hid ((¬ k < M) ∨ (∃ h : k < t.size, k < M ∧ ¬ t[k] = t[0]'hpos)) := by
            rcases hstop with ⟨h, _⟩ | ⟨h2, h1, h3, _⟩
            · exact .inl h
            · exact .inr ⟨h2, h1, h3⟩
          have HSL := Lib.hid hsl
          clear hp hrun hstop hdr hsl
          rcases hlast.out with h | ⟨h2, h1, h3⟩
          all_goals
            try have hbe := byte_beq t[k] (t[0]'hpos)
            try rw [decide_eq_false h3] at hbe
            try have j3 : (k : Int) < (t.size : Int) := by omega
            try clear h3
            gi_wp2
            gi_quiet (fail)
            obtain ⟨W1, hW1⟩ : ∃ W1, wr.drewN nq = W1 := ⟨_, rfl⟩
            have hb1 : Boxed W1 b 9 (.string t) := by rw [← hW1]; exact boxed_drewN HBW.out nq
            have hj1 : J pre W1 := by rw [← hW1]; exact HJ.out pre _ _ HJW.out (.inl ⟨nq, rfl⟩)
            have hlz : leftAt b wo = t.size := by rw [leftAt_eq hbx.out, HT.out]
            rw [hW1]
            have hc1 := hb1.cell
            have hf1 := hb1.frozen
            have HB1 := Lib.hid hb1
            have HLZ := Lib.hid hlz
            have HSL2 := HSL
            have hsl := HSL.out
            obtain ⟨fn, tmps, assign, body, hy, hR⟩ := HY.out pre ((x :: r).take k) W1 hj1 (by rw [HP.out]; exact ⟨pcs ((x :: r).drop k), by simp⟩)
            clear hW1 hb1 hlz hj1 hcw hfw hcb hfb
            gi_wp2
            refine hR.mono ?_
            rintro e W3 (⟨rfl, hJ3, hk3⟩ | ⟨rfl, hJx3⟩)
            · have hb3 : Boxed W3 b 9 (.string t) := hk3.trans HB1.out
              have hc3 := hb3.cell
              have hf3 := hb3.frozen
              have hb4 := hb3.set (.string (t.extract k t.size))
              have hj4 := HJ.out _ W3 _ hJ3 (.inr ⟨.string (t.extract k t.size), rfl⟩)
              have HB4 := Lib.hid hb4
              have HJ4 := Lib.hid hj4
              clear hb3 hb4 hj4 hk3 hJ3 hsl
              gi_wp2
              go_roundw
              case rel =>
                refine ⟨pre ++ [(x :: r).take k], (x :: r).drop k, Lib.hid (by rw [HP.out]; simp), by rw [List.length_drop]; omega, ?_, HJ4⟩
                rw [← HDR.out]
                exact HB4
              case measure =>
                rw [leftAt_eq HB4.out, HLZ.out, HDR.out, bs_size, List.length_drop]
                have := HTS.out
                omega
            · gi_wp2
              refine bodyPost_ret (results_none rfl _ _ _) rfl ?_
              exact ⟨⟨_, rfl⟩, .inr ⟨_, by rw [HP.out]; exact ⟨pcs ((x :: r).drop k), by simp⟩, hJx3⟩⟩
end Rle
end Go.Proofs.Ythdpcjahficlnaa
