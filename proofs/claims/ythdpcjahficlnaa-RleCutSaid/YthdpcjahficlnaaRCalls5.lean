/- Contracts of chapter 4's functions: Unpack, second part. -/
import Derived.Test.YthdpcjahficlnaaRCalls4
namespace Go.Proofs.Ythdpcjahficlnaa
namespace Rle
open Go.RowKit
set_option linter.unusedVariables false

theorem urun_len (s : T) : (urun s).2.2.length ≤ 52 * s.length := by have := (urun_bounds s).2.1; omega
theorem urun_run (s : T) : (urun s).1 ≤ 4 := (urun_bounds s).1
theorem ust_four {st : U} {c : UInt8} (h : st.1 = 4) : ust st c = (0, st.2.1, st.2.2 ++ List.replicate c.toNat st.2.1) := by unfold ust; rw [if_pos h]
theorem ust_more {st : U} {c : UInt8} (h : ¬ st.1 = 4) (h1 : 0 < st.1) (h2 : c = st.2.1) : ust st c = (st.1 + 1, st.2.1, st.2.2 ++ [st.2.1]) := by unfold ust; rw [if_neg h, if_pos ⟨h1, h2⟩]
theorem ust_new {st : U} {c : UInt8} (h : ¬ st.1 = 4) (h1 : ¬ (0 < st.1 ∧ c = st.2.1)) : ust st c = (1, c, st.2.2 ++ [c]) := by unfold ust; rw [if_neg h, if_neg h1]

theorem told_one (B b k : Nat) (c : UInt8) (full : T) (most : Int) (lim : Nat) (hlim : (max most 0).toNat + 1 = lim) (W : World) (h : Bld W B b (full.take lim)) (hm : Boxed W k 3 (.int .i64 most)) (hk : k ≠ b) (hB : B ≤ W.heap.size) (hf : full.length ≤ 1000000) :
    Calls Try.prog 18 #[.int .u8 (c.toNat : Int), .int .i64 1, .pointer (some ⟨b, 0, none⟩), .pointer (some ⟨k, 0, none⟩)] W fun e w' =>
      e = .returned (.tuple #[]) ∧ Bld w' B b ((full ++ [c]).take lim) ∧ Below B W w' ∧ Lib.OthersKept TY (some b) W w' ∧ W.heap.size ≤ w'.heap.size :=
  told_any B b k c 1 full most lim hlim W h hm hk hB (by omega) hf
/-- What Unpack answers. -/
def UnpackPost (s : T) (most : Int) (w : World) (e : Ending) (w' : World) : Prop :=
  e = .returned (.tuple #[.string (bs (resU s most)), .int .i64 (codeU s most)]) ∧ Below w.heap.size w w'

set_option maxRecDepth 100000 in
set_option maxHeartbeats 2000000 in
theorem Unpack_any (s : ByteArray) (most : Int) (hs : s.size ≤ 10000) (hm1 : -9223372036854775808 ≤ most) (hm2 : most ≤ 9223372036854775807) (w : World) :
    Calls Try.prog 10 #[.string s, .int .i64 most] w (UnpackPost s.data.toList most w) := by
  obtain ⟨lim, hlim⟩ : ∃ lim, (max most 0).toNat + 1 = lim := ⟨_, rfl⟩
  have HLIM := Lib.hid hlim
  clear hlim
  have hnil : bs [] = (⟨#[]⟩ : ByteArray) := by unfold bs; rfl
  have HNIL := Lib.hid hnil
  clear hnil
  go_enter Try.func10, Try.ntmps10
  go_wp2
  have hv := Bld.new (w.alloc (.cells #[.int .i64 most] 3))
  have hbox := (Boxed.new w 3 (.int .i64 most)).alloc (.cells #[.pointer none, .slice none 0 0] 41)
  obtain ⟨W0, hW0⟩ : ∃ W0, (w.alloc (.cells #[.int .i64 most] 3)).alloc (.cells #[.pointer none, .slice none 0 0] 41) = W0 := ⟨_, rfl⟩
  have hsz : W0.heap.size = w.heap.size + 2 := by rw [← hW0]; simp
  have hB0 : Below w.heap.size w W0 := by rw [← hW0]; exact ((Below.refl _ w).alloc (Nat.le_refl _) _).alloc (by simp) _
  rw [hW0] at hv hbox ⊢
  rw [World.size_alloc] at hv
  have HV := Lib.hid hv
  have HBOX := Lib.hid hbox
  have HB0 := Lib.hid hB0
  have n1 : w.heap.size ≠ w.heap.size + 1 := by omega
  clear hv hbox hB0 hW0
  go_loopw [8, 9, 14] (fun rv lv i wr => ∃ (k r : Nat) (c : UInt8) (o : T), k ≤ s.size ∧ i = .int .i64 k ∧ rv = .int .i64 (r : Int) ∧ lv = .int .u8 (c.toNat : Int) ∧ RowKit.Hid (urun (s.data.toList.take k) = (r, c, o)) ∧ RowKit.Hid (Bld wr (w.heap.size + 1) (w.heap.size + 1) (o.take lim)) ∧ RowKit.Hid (Below w.heap.size w wr) ∧ RowKit.Hid (Lib.OthersKept TY (some (w.heap.size + 1)) W0 wr) ∧ W0.heap.size ≤ wr.heap.size) (fun _ _ i _ => s.size - (intOf i).toNat)
  case atStart => exact ⟨0, 0, 0, [], by omega, rfl, rfl, rfl, Lib.hid rfl, Lib.hid (by simpa using HV.out), HB0, Lib.hid (Lib.OthersKept.refl _ _ _), Nat.le_refl _⟩
  case round =>
    obtain ⟨k, r, c, o, hk, rfl, rfl, rfl, hst, hb, hbel, hok, hz⟩ := hrel
    have hbx : Boxed wr w.heap.size 3 (.int .i64 most) := (boxed_kept hok.out HBOX.out n1 (by decide)).trans HBOX.out
    have hol : o.length ≤ 520000 := by
      have h := urun_len (s.data.toList.take k)
      rw [hst.out, List.length_take, len_text] at h
      simp only at h
      omega
    have hr4 : r ≤ 4 := by have h := urun_run (s.data.toList.take k); rw [hst.out] at h; exact h
    have HBX := Lib.hid hbx
    have hzz : w.heap.size + 1 ≤ wr.heap.size := by omega
    clear hbx
    by_cases hlt : k < s.size
    · have hsn : urun (s.data.toList.take (k + 1)) = ust (r, c, o) (s[k]'hlt) := by
        rw [List.take_succ_eq_append_getElem (by rw [len_text]; exact hlt), urun_snoc, hst.out]; rfl
      have HSN := Lib.hid hsn
      have hbe := byte_beq s[k] c
      have hk255 : s[k].toNat ≤ 255 := by have := s[k].toNat_lt; omega
      clear hsn
      by_cases h4 : r = 4
      · have ht : ((r : Int) == 4) = true := by rw [h4]; rfl
        have H4 := Lib.hid h4
        have hu := ust_four (st := (r, c, o)) (c := s[k]) h4
        have HU := Lib.hid hu
        clear h4 hu hbe
        go_wp2_with fail
        refine (told_any (w.heap.size + 1) (w.heap.size + 1) w.heap.size c s[k].toNat o most lim HLIM.out _ hb.out HBX.out n1 hzz hk255 (by omega)).mono ?_
        rintro e w2 ⟨rfl, h2, hb2, hk2, hz2⟩
        have H2 := Lib.hid h2
        have HB2 := Lib.hid (hbel.out.trans (hb2.mono (by omega)))
        have HK2 := Lib.hid (hok.out.trans hk2)
        clear h2 hb2 hk2
        go_wp2
        go_roundw
        case rel => exact ⟨k + 1, 0, c, _, by omega, by go_num, rfl, rfl, Lib.hid (by rw [HSN.out, HU.out]), H2, HB2, HK2, by omega⟩
        case measure => simp [intOf]; omega
      · have ht : ((r : Int) == 4) = false := by simp; omega
        have H4 := Lib.hid h4
        clear h4
        by_cases hm : 0 < r ∧ s[k] = c
        · obtain ⟨h0, hc⟩ := hm
          have hu := ust_more (st := (r, c, o)) (c := s[k]) H4.out h0 hc
          rw [decide_eq_true hc] at hbe
          have HU := Lib.hid hu
          clear hu hc
          go_wp2_with fail
          refine (told_one (w.heap.size + 1) (w.heap.size + 1) w.heap.size c o most lim HLIM.out _ hb.out HBX.out n1 hzz (by omega)).mono ?_
          rintro e w2 ⟨rfl, h2, hb2, hk2, hz2⟩
          have H2 := Lib.hid h2
          have HB2 := Lib.hid (hbel.out.trans (hb2.mono (by omega)))
          have HK2 := Lib.hid (hok.out.trans hk2)
          clear h2 hb2 hk2
          go_wp2
          go_roundw
          case rel => exact ⟨k + 1, r + 1, c, _, by omega, by go_num, by go_num, rfl, Lib.hid (by rw [HSN.out, HU.out]), H2, HB2, HK2, by omega⟩
          case measure => simp [intOf]; omega
        · have hu := ust_new (st := (r, c, o)) (c := s[k]) H4.out hm
          have HU := Lib.hid hu
          have hways : r = 0 ∨ (0 < r ∧ ¬ s[k] = c) := by
            by_cases h0 : r = 0
            · exact .inl h0
            · exact .inr ⟨by omega, fun h => hm ⟨by omega, h⟩⟩
          clear hu hm
          rcases hways with h0 | ⟨h0, hc⟩
          all_goals
            try rw [decide_eq_false hc] at hbe
            try clear hc
            try (have hgt : ¬ 0 < r := by omega
                 clear h0)
            go_wp2_with fail
            refine (told_one (w.heap.size + 1) (w.heap.size + 1) w.heap.size s[k] o most lim HLIM.out _ hb.out HBX.out n1 hzz (by omega)).mono ?_
            rintro e w2 ⟨rfl, h2, hb2, hk2, hz2⟩
            have H2 := Lib.hid h2
            have HB2 := Lib.hid (hbel.out.trans (hb2.mono (by omega)))
            have HK2 := Lib.hid (hok.out.trans hk2)
            clear h2 hb2 hk2
            go_wp2
            go_roundw
            case rel => exact ⟨k + 1, 1, s[k], _, by omega, by go_num, rfl, rfl, Lib.hid (by rw [HSN.out, HU.out]), H2, HB2, HK2, by omega⟩
            case measure => simp [intOf]; omega
    · have hfull : s.data.toList.take k = s.data.toList := List.take_of_length_le (by rw [len_text]; omega)
      have hst2 := hst.out
      rw [hfull] at hst2
      have HST := Lib.hid hst2
      have cl := len_any (w.heap.size + 1) (w.heap.size + 1) (o.take lim)
      have hln : (o.take lim).length = min lim o.length := by rw [List.length_take]
      obtain ⟨ln, hln0⟩ : ∃ ln, (o.take lim).length = ln := ⟨_, rfl⟩
      rw [hln0] at cl hln
      have CL := Lib.hid cl
      have HLN := Lib.hid hln
      clear cl hln hln0
      have hcm := HBX.out.cell
      clear hfull hst2
      by_cases h4 : r = 4
      · have ht : ((r : Int) == 4) = true := by rw [h4]; rfl
        have hcd : codeU s.data.toList most = 3 := by unfold codeU; rw [HST.out, if_pos h4]
        have hrs : resU s.data.toList most = [] := by unfold resU; rw [hcd]; rfl
        have HCD := Lib.hid hcd
        have HRS := Lib.hid hrs
        clear h4 hcd hrs
        go_wp2
        go_ret2
        exact ⟨by rw [HCD.out, HRS.out, HNIL.out]; rfl, hbel.out⟩
      · have ht : ((r : Int) == 4) = false := by simp; omega
        by_cases hlong : most < (o.length : Int)
        · have hd : most < (ln : Int) := by
            have h1 := HLIM.out
            have h2 := HLN.out
            omega
          have hcd : codeU s.data.toList most = 4 := by unfold codeU; rw [HST.out, if_neg h4, if_pos hlong]
          have hrs : resU s.data.toList most = [] := by unfold resU; rw [hcd]; rfl
          have HCD := Lib.hid hcd
          have HRS := Lib.hid hrs
          clear h4 hcd hrs hlong
          go_wp2
          go_quiet ((go_at_call 19; exact Calls.quiet_of_same (CL.out _ (hb.out.drewN _))))
          go_wp2
          go_ret2
          exact ⟨by rw [HCD.out, HRS.out, HNIL.out]; rfl, below_drewN hbel.out _⟩
        · have hd : ¬ most < (ln : Int) := by
            have h2 := HLN.out
            omega
          have hcd : codeU s.data.toList most = 0 := by unfold codeU; rw [HST.out, if_neg h4, if_neg hlong]
          have hrs : resU s.data.toList most = o := by unfold resU; rw [if_pos hcd, HST.out]
          have htk : o.take lim = o := List.take_of_length_le (by have := HLIM.out; omega)
          have HCD := Lib.hid hcd
          have HRS := Lib.hid hrs
          have HTK := Lib.hid htk
          clear h4 hcd hrs hlong htk
          go_wp2
          go_quiet ((go_at_call 19; exact Calls.quiet_of_same (CL.out _ (hb.out.drewN _))))
          go_wp2_with fail
          refine (string_any (w.heap.size + 1) (w.heap.size + 1) (o.take lim) _ (hb.out.drewN nq) hzz).mono ?_
          rintro e w2 ⟨rfl, hb2, hk2⟩
          rw [HTK.out]
          go_wp2
          go_ret2
          exact ⟨by rw [HCD.out, HRS.out, ← bs_eq]; rfl, (below_drewN hbel.out nq).trans (hb2.mono (by omega))⟩
end Rle
end Go.Proofs.Ythdpcjahficlnaa
