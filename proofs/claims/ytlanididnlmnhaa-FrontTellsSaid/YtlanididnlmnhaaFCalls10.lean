/- Contracts of layer 5 (front), tenth part: the document's Back; what the laws' words are made of. -/
import Derived.Test.YtlanididnlmnhaaFCalls9
namespace Go.Proofs.Ytlanididnlmnhaa
namespace Front
open Go.RowKit
open Kit (bval)
set_option linter.unusedVariables false

theorem bs_one (F : T) (q : Nat) (hq : q < F.length) : (bs F).extract q (q + 1) = bs [F.getD q 0] := by
  apply list_inj
  rw [list_extract, bs_list, bs_list, List.take_succ_eq_append_getElem hq, List.drop_append_of_le_length (by simp; omega), List.drop_of_length_le (by simp; omega), getD_at F q hq]
  rfl
theorem bs_append (x y : T) : bs x ++ bs y = bs (x ++ y) := by
  apply list_inj
  rw [list_append, bs_list, bs_list, bs_list]

set_option maxRecDepth 100000 in
set_option maxHeartbeats 1000000 in
theorem rback_any (a : ByteArray) (ha : a.size ≤ 1000) (p : Option Addr) (c n : Nat) (l : List Int) (hl : l.length = n) (hn : n ≤ 100000) (w : World) (hsrc : Kit.Src w p (l.map inum)) :
    Calls Try.prog 21 #[.string a, .slice p n c] w (BackPost a.data.toList l w) := by
  have HSRC := Lib.hid hsrc
  have hnil : (⟨#[]⟩ : ByteArray) = bs [] := by unfold bs; rfl
  have HNIL := Lib.hid hnil
  clear hsrc hnil
  go_enter Try.func21, Try.ntmps21
  go_wp2_with fail
  refine (rright_any a (by unfold maxLen; omega) _).mono ?_
  rintro e w1 ⟨rfl, rfl⟩
  by_cases hr : right a.data.toList = true
  · rw [hr]
    have HR := Lib.hid hr
    have HL := Lib.hid hl
    clear hr hl
    have hst : RowKit.Hid (a = bs (unf a.data.toList (nats (l.take 0)))) := Lib.hid (bs_of a).symm
    go_wp2
    go_loopw [7, 8, 9] (fun o v i wr => ∃ k : Nat, k ≤ n ∧ i = .int .i64 k ∧ o = .string (bs (unf a.data.toList (nats (l.take k)))) ∧ v = .string (bs (unp a.data.toList (nats (l.take k)))) ∧ RowKit.Hid (inR a.data.toList.length (l.take k) = true) ∧ Below w.heap.size w wr) (fun _ _ i _ => n - (intOf i).toNat)
    case atStart => exact ⟨0, by omega, rfl, by rw [← hst.out], by rw [HNIL.out]; rfl, Lib.hid rfl, Below.refl _ _⟩
    case round =>
      obtain ⟨k, hk, rfl, rfl, rfl, hin, hb⟩ := hrel
      by_cases hlt : k < n
      · have hkl : k < l.length := by rw [HL.out]; exact hlt
        obtain ⟨b0, off, rfl, hbl, hcell⟩ := src_at HSRC.out k hkl
        have hcw : _ := hb.cell (p := ⟨b0, off + k, none⟩) hbl
        rw [hcell] at hcw
        obtain ⟨x, hx⟩ : ∃ x, l[k] = x := ⟨_, rfl⟩
        rw [hx] at hcw
        have HX := Lib.hid hx
        clear hx hcell
        have hflen : (unf a.data.toList (nats (l.take k))).length = a.size := by rw [unf_length _ _ (nats_lt _ _ hin.out), len_text]
        obtain ⟨F, hF⟩ : ∃ F, unf a.data.toList (nats (l.take k)) = F := ⟨_, rfl⟩
        obtain ⟨U, hU⟩ : ∃ U, unp a.data.toList (nats (l.take k)) = U := ⟨_, rfl⟩
        rw [hF] at hflen
        rw [hF, hU]
        have hfs : (bs F).size = a.size := by rw [bs_size, hflen]
        obtain ⟨S, hS⟩ : ∃ S, bs F = S := ⟨_, rfl⟩
        rw [hS] at hfs
        rw [hS]
        have HS := Lib.hid hS
        have HFS := Lib.hid hfs
        clear hS
        have HF := Lib.hid hF
        have HU := Lib.hid hU
        have HFL := Lib.hid hflen
        clear hF hU hflen hfs
        by_cases hneg : x < 0
        · have h5 := codeB_out a.data.toList l k hkl HR.out (by rw [HX.out]; omega)
          have h6 := resB_nil a.data.toList l (by rw [h5]; decide)
          have H5 := Lib.hid h5
          have H6 := Lib.hid h6
          clear h5 h6
          go_wp2
          go_ret2
          exact ⟨by rw [H5.out, H6.out]; rfl, hb⟩
        · obtain ⟨q, rfl⟩ := Int.eq_ofNat_of_zero_le (show 0 ≤ x by omega)
          by_cases hbig : q < S.size
          · have hone := bs_one F q (by rw [HFL.out, ← HFS.out]; exact hbig)
            have hjoin := bs_append U [F.getD q 0]
            rw [← hone, HS.out] at hjoin
            have HJ := Lib.hid hjoin
            have i2 : (q : Int) + 1 ≤ (S.size : Int) := by omega
            have i5 : S.size ≤ 1000 := by have := HFS.out; omega
            have i6 : IntKind.i64.wrap ((q : Int) + 1) = (q : Int) + 1 := IntWalk.i64_in _ (by omega)
            clear hone hjoin
            have hus : (bs U).size ≤ 100000 := by rw [bs_size, ← HU.out, unp_length]; unfold nats; rw [List.length_map, List.length_take]; omega
            go_wp2
            go_quiet (fail)
            rw [HJ.out]
            have hb3 : Below w.heap.size w (wr.drewN nq) := below_drewN hb nq
            have hcw3 : (wr.drewN nq).cell? ⟨b0, off + k, none⟩ = some (.int .i64 (q : Int)) := hcw
            obtain ⟨wn, hwn⟩ : ∃ wn, wn = wr.drewN nq := ⟨_, rfl⟩
            rw [← hwn] at hb3 hcw3 ⊢
            clear hwn
            go_wp2_with fail
            refine (rfront_any S q hbig (by rw [HFS.out]; unfold maxLen; omega) _).mono ?_
            rintro e w4 ⟨rfl, hb4⟩
            rw [← HS.out, bs_list]
            have hz4 := hb3.size
            go_wp2
            go_roundw
            case rel =>
              have e : l.take (k + 1) = l.take k ++ [(q : Int)] := by rw [List.take_succ_eq_append_getElem hkl, HX.out]
              refine ⟨k + 1, by omega, by go_num, ?_, ?_, ?_, hb3.trans (hb4.mono hz4)⟩
              · rw [e, nats_snoc, unf_snoc, HF.out]; rfl
              · rw [e, nats_snoc, unp_snoc, HF.out, HU.out]; rfl
              · rw [e, inR_snoc, hin.out, Bool.true_and, decide_eq_true_eq, len_text]
                exact Lib.hid (by have := HFS.out; omega)
            case measure => simp [intOf]; omega
          · have h5 := codeB_out a.data.toList l k hkl HR.out (by rw [HX.out, len_text]; have := HFS.out; omega)
            have h6 := resB_nil a.data.toList l (by rw [h5]; decide)
            have H5 := Lib.hid h5
            have H6 := Lib.hid h6
            clear h5 h6
            go_wp2
            go_ret2
            exact ⟨by rw [H5.out, H6.out]; rfl, hb⟩
      · have hfull : l.take k = l := List.take_of_length_le (by rw [HL.out]; omega)
        rw [hfull] at hin ⊢
        have hc0 := codeB_ok a.data.toList l HR.out hin.out
        have hre := resB_ok a.data.toList l hc0
        have HC := Lib.hid hc0
        have HE := Lib.hid hre
        clear hfull hc0 hre
        go_wp2
        go_ret2
        exact ⟨by rw [HC.out, HE.out, bs_eq]; rfl, hb⟩
  · rw [Bool.not_eq_true] at hr
    rw [hr]
    have hc := codeB_bad a.data.toList l hr
    have e1 := resB_nil a.data.toList l (by rw [hc]; decide)
    have HC := Lib.hid hc
    have HE := Lib.hid e1
    clear hc e1
    go_wp2
    go_ret2
    exact ⟨by rw [HC.out, HE.out]; rfl, Below.refl _ _⟩
end Front
end Go.Proofs.Ytlanididnlmnhaa
