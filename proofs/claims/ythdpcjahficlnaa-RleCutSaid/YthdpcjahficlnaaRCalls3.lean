/- Contracts of chapter 4's functions: Cut. -/
import Derived.Test.YthdpcjahficlnaaRCalls2
import Derived.WalkLawsBesides
namespace Go.Proofs.Ythdpcjahficlnaa
namespace Rle
open Go.RowKit Go.Shelf
set_option linter.unusedVariables false
attribute [local go_sem] Oper.semAt_some

def sl (pre : List T) : Nat := (pre.map List.length).sum
theorem sl_snoc (pre : List T) (x : T) : sl (pre ++ [x]) = sl pre + x.length := by unfold sl; simp
theorem sl_all (s : T) : sl (pcs s) = s.length := by
  have := congrArg List.length (pcs_flat s)
  rw [List.length_flatten] at this
  exact this
theorem piece_at : ∀ (pre : List T) (s x : T), pre ++ [x] <+: pcs s → s.drop (sl pre) ≠ [] ∧ run1 (s.drop (sl pre)) = x.length
  | [], s, x, h => by
    have hs : s ≠ [] := by
      rintro rfl
      rw [pcs_nil] at h
      have := h.length_le
      simp at this
    rw [pcs_cons s hs] at h
    have e : x = s.take (run1 s) := by
      obtain ⟨t, ht⟩ := h
      simp at ht
      exact ht.1
    refine ⟨by simpa [sl] using hs, ?_⟩
    rw [e, take_run]
    simp [sl]
  | p :: pre, s, x, h => by
    have hs : s ≠ [] := by
      rintro rfl
      rw [pcs_nil] at h
      have := h.length_le
      simp at this
    rw [pcs_cons s hs, List.cons_append, List.cons_prefix_cons] at h
    have ih := piece_at pre (s.drop (run1 s)) x h.2
    have e : sl (p :: pre) = run1 s + sl pre := by
      unfold sl
      rw [List.map_cons, List.sum_cons, h.1, take_run]
    rw [e, ← List.drop_drop]
    exact ih
/-- How far Cut has come. -/
def CutAt (s : T) (room : Int) (pre : List T) : Prop := cut s room = sl pre + cut (s.drop (sl pre)) (room - lens pre) ∧ -9223372036854775808 ≤ room - lens pre
theorem CutAt.start (s : T) (room : Int) (h : -9223372036854775808 ≤ room) : CutAt s room [] := ⟨by simp [sl, lens], by simpa [lens] using h⟩
theorem CutAt.step {s : T} {room : Int} {pre : List T} {x : T} (h : CutAt s room pre) (hx : pre ++ [x] <+: pcs s) (hr : (plen x.length : Int) ≤ room - lens pre) : CutAt s room (pre ++ [x]) := by
  obtain ⟨h1, h2⟩ := piece_at pre s x hx
  obtain ⟨k1, k2⟩ := h
  refine ⟨?_, ?_⟩
  · rw [k1, cut_fits _ _ h1 (by rw [h2]; exact hr), h2, List.drop_drop, sl_snoc, lens_snoc]
    rw [show room - (lens pre : Int) - (plen x.length : Int) = room - ((lens pre + plen x.length : Nat) : Int) from by omega]
    omega
  · rw [lens_snoc]; omega
theorem CutAt.stop {s : T} {room : Int} {pre : List T} {x : T} (h : CutAt s room pre) (hx : pre ++ [x] <+: pcs s) (hr : ¬ (plen x.length : Int) ≤ room - lens pre) : cut s room = sl pre + min (min (max (room - lens pre) 0).toNat 3) x.length := by
  obtain ⟨h1, h2⟩ := piece_at pre s x hx
  rw [h.1, cut_stops _ _ h1 (by rw [h2]; exact hr), h2]
theorem CutAt.all {s : T} {room : Int} (h : CutAt s room (pcs s)) : cut s room = s.length := by
  rw [h.1, sl_all, List.drop_length, cut_nil]; omega

set_option maxRecDepth 100000 in
set_option maxHeartbeats 2000000 in
theorem Cut_any (s : ByteArray) (room : Int) (hs : s.size ≤ 100000) (hr1 : -9223372036854775808 ≤ room) (hr2 : room ≤ 9223372036854775807) (w : World) :
    Calls Try.prog 13 #[.string s, .int .i64 room] w fun e w' => e = .returned (.int .i64 (cut s.data.toList room : Int)) ∧ Below w.heap.size w w' := by
  refine (callsIn_wide (n := 3)).1 ?_
  refine callsIn_of_wp_marks Try.func13 rfl trivial ?_ rfl
  simp only [Try.ntmps13, List.size_toArray, List.length_cons, List.length_nil, Nat.reduceAdd, Nat.reduceSub, Array.replicate_succ, Array.replicate_zero, List.push_toArray, List.append_toArray, List.nil_append, List.cons_append]
  gi_wp2_with fail
  refine ⟨trivial, (callsIn_wide.2 (pieces_any s _)).mono ?_⟩
  rintro e w1 ⟨rfl, rfl⟩
  gi_wp2
  have hv3 := ((Var.new w (.int .i64 room) 3).alloc (.cells #[.int .i64 0] 3)).alloc (.cells #[.string s] 9)
  have hv4 := (Var.new (w.alloc (.cells #[.int .i64 room] 3)) (.int .i64 0) 3).alloc (.cells #[.string s] 9)
  have hbox := Boxed.new ((w.alloc (.cells #[.int .i64 room] 3)).alloc (.cells #[.int .i64 0] 3)) 9 (.string s)
  obtain ⟨W0, hW0⟩ : ∃ W0, ((w.alloc (.cells #[.int .i64 room] 3)).alloc (.cells #[.int .i64 0] 3)).alloc (.cells #[.string s] 9) = W0 := ⟨_, rfl⟩
  have hsz : W0.heap.size = w.heap.size + 3 := by rw [← hW0]; simp
  have hB0 : Below w.heap.size w W0 := by rw [← hW0]; exact (((Below.refl _ w).alloc (Nat.le_refl _) _).alloc (by simp) _).alloc (by simp; omega) _
  rw [hW0] at hv3 hv4 hbox ⊢
  simp only [World.size_alloc] at hbox hv4
  have HV3 := Lib.hid hv3
  have HV4 := Lib.hid hv4
  have HBOX := Lib.hid hbox
  have HB0 := Lib.hid hB0
  have hLen := (Len_bounds s.data.toList).1
  rw [len_text] at hLen
  have hLs : Len s.data.toList ≤ 125000 := by omega
  have n3 : w.heap.size ≠ w.heap.size + 1 + 1 := by omega
  have n4 : w.heap.size + 1 ≠ w.heap.size + 1 + 1 := by omega
  have n34 : w.heap.size ≠ w.heap.size + 1 := by omega
  clear hv3 hv4 hbox hB0 hW0 hLen
  refine range_law (gf := 21) (lb := #[.pointer (some ⟨w.heap.size + 1 + 1, 0, none⟩)]) rfl (enters_of Try.func21 (by kernel_rfl) rfl) (fun p : T => .string (bs p)) (w.heap.size + 1 + 1) (by omega) (pcs s.data.toList)
    (fun W hW => pieces_seq _ s hs W ((hW.block _ (by omega)).trans HBOX.out))
    (fun pre W => Var W w.heap.size (.int .i64 (room - lens pre)) ∧ Var W (w.heap.size + 1) (.int .i64 (sl pre : Int)) ∧ Below w.heap.size w W ∧ W0.heap.size ≤ W.heap.size ∧ CutAt s.data.toList room pre)
    (fun c pre W => c = .ret ∧ Var W (w.heap.size + 1) (.int .i64 (cut s.data.toList room : Int)) ∧ Below w.heap.size w W ∧ W0.heap.size ≤ W.heap.size)
    (fun pre W l o o' hl ho hc hi => ⟨hi.1.put o' ho hc, hi.2.1.put o' ho hc, below_put o' hi.2.2.1 ho (by omega) (by omega), by rw [World.putObj]; simpa using hi.2.2.2.1, hi.2.2.2.2⟩)
    (fun c pre W l o o' hl ho hc hi => ⟨hi.1, hi.2.1.put o' ho hc, below_put o' hi.2.2.1 ho (by omega) (by omega), by rw [World.putObj]; simpa using hi.2.2.2⟩)
    (fun pre A B hi ho => ⟨hi.1.own1 ho n3, hi.2.1.own1 ho n4, below_own1 hi.2.2.1 ho (by omega), Nat.le_trans hi.2.2.2.1 ho.keeps.size, hi.2.2.2.2⟩)
    (fun o o' => ⟨by simpa [lens] using (HV3.out.alloc o).alloc o', by simpa [sl] using (HV4.out.alloc o).alloc o', (HB0.out.alloc (by omega) o).alloc (by simp; omega) o', by simp; omega, CutAt.start _ _ hr1⟩)
    (fun x => { tmps := #[.string s, .int .i64 room, undef, .pointer (some ⟨w.heap.size, 0, none⟩), .pointer (some ⟨w.heap.size + 1, 0, none⟩), .string (bs x), undef, .string s, .func (.func 21) #[] #[.pointer (some ⟨w.heap.size + 1 + 1, 0, none⟩)], .string (bs x), undef, undef, undef, undef, undef, undef, undef, undef, undef, undef, undef, undef, undef, undef, undef, undef, undef, undef, undef, undef, undef], defers := [] }) ?assign ?body ?done ?stop
  case assign =>
    intro l x W K hK
    gi_wp2
    exact hK
  case body =>
    rintro l pre x W hsW ⟨hv3, hv4, hB, hz, hcut⟩ hpre
    obtain ⟨f1, f2, f3, f4⟩ := piece_facts hpre
    have hbx := bs_size x
    have f5 : sl pre + x.length ≤ s.data.toList.length := f4
    rw [len_text] at f5
    have hb1 := hcut.2
    have hb2 : room - (lens pre : Int) ≤ 9223372036854775807 := by omega
    obtain ⟨R, hR⟩ : ∃ R, room - (lens pre : Int) = R := ⟨_, rfl⟩
    rw [hR] at hv3 hb1 hb2
    have hc3 := hv3.cell
    have hf3 := hv3.free
    have hc4 := hv4.cell
    have hf4 := hv4.free
    have HV3 := Lib.hid hv3
    have HV4 := Lib.hid hv4
    have HR := Lib.hid hR
    have HCUT := Lib.hid hcut
    have hpl := plen_le x.length
    obtain ⟨pl, hpl2⟩ : ∃ pl, plen x.length = pl := ⟨_, rfl⟩
    have HPL := Lib.hid hpl2
    rw [hpl2] at hpl
    clear f3 f4 hv3 hv4 hR hcut hpl2
    by_cases hfit : (pl : Int) ≤ R
    · gi_wp2_with fail
      refine ⟨trivial, (CallsIn.inRound l (callsIn_wide.2 (length_any x.length (by omega) _))).mono ?_⟩
      rintro e w1 ⟨rfl, rfl⟩
      rw [HPL.out]
      gi_wp2
      have v3 := (HV3.out.set (.int .i64 (R - (pl : Int)))).other (c := w.heap.size + 1) (.int .i64 ((sl pre : Int) + (x.length : Int))) n34
      have v4 := (HV4.out.other (c := w.heap.size) (.int .i64 (R - (pl : Int))) (Ne.symm n34)).set (.int .i64 ((sl pre : Int) + (x.length : Int)))
      refine ⟨(KeepsOthers.setCell _ _ _).trans (KeepsOthers.setCell _ _ _), ?_, ?_, ?_, ?_, ?_, ?_⟩
      · exact (Below.heap_setCell _ _ _ _ (Ne.symm n4)).trans (Below.heap_setCell _ _ _ _ (Ne.symm n3))
      · rw [lens_snoc, HPL.out, Int.natCast_add, ← Int.sub_sub, HR.out]; exact v3
      · rw [sl_snoc, Int.natCast_add]; exact v4
      · exact (hB.setCell (p := ⟨w.heap.size, 0, none⟩) (Nat.le_refl _) _).setCell (p := ⟨w.heap.size + 1, 0, none⟩) (by simp) _
      · simp [World.setCell]; exact hz
      · exact HCUT.out.step hpre (by rw [HPL.out, HR.out]; exact hfit)
    · gi_wp2_with fail
      refine ⟨trivial, (CallsIn.inRound l (callsIn_wide.2 (length_any x.length (by omega) _))).mono ?_⟩
      rintro e w1 ⟨rfl, rfl⟩
      rw [HPL.out]
      obtain ⟨q, hq⟩ : ∃ q : Nat, max R 0 = (q : Int) := Int.eq_ofNat_of_zero_le (by omega)
      obtain ⟨q3, hq3, _, _, hq3e⟩ := Kit.cut_len q 3 3 rfl
      have hstop := HCUT.out.stop hpre (by rw [HPL.out, HR.out]; omega)
      have hfin : (sl pre : Int) + (q3 : Int) = (cut s.data.toList room : Int) := by
        rw [hstop, HR.out, hq3e.out]
        have e1 : (max R 0).toNat = q := by omega
        rw [e1]
        have e2 : pl = x.length ∨ (pl = 5 ∧ 4 ≤ x.length) := by
          rw [← HPL.out]; unfold plen; split <;> omega
        omega
      have HFIN := Lib.hid hfin
      clear hfin hstop
      gi_wp2
      rw [HFIN.out]
      exact ⟨KeepsOthers.setCell _ _ _, rfl, HV4.out.set _, hB.setCell (p := ⟨w.heap.size + 1, 0, none⟩) (by simp) _, by simp [World.setCell]; exact hz⟩
  case done =>
    rintro D W hD ⟨hv3, hv4, hB, hz, hcut⟩ hK
    have hc := hv4.cell
    have hf := hv4.free
    have HV := Lib.hid hv4
    clear hv3 hv4
    gi_wp2
    have hK' := (KeepsOthers.setCell W ⟨w.heap.size + 1, 0, none⟩ (.int .i64 (sl (pcs s.data.toList) : Int))).same D _ hK rfl
    refine ⟨by simp, .inl ⟨_, _, rfl, run_takeDeferred hK', ?_⟩⟩
    have hv5 := (HV.out.set (.int .i64 (sl (pcs s.data.toList) : Int))).put (.deferred none) hK' rfl
    have hc5 := hv5.cell
    refine ⟨.int .i64 (cut s.data.toList room : Int), ?_, rfl, ?_⟩
    · rw [hcut.all, ← sl_all]; simp [results, Try.f13, go_sem, hc5]
    · exact below_put _ (hB.setCell (p := ⟨w.heap.size + 1, 0, none⟩) (by simp) _) hK' (by omega) (by simp [World.setCell]; omega)
  case stop =>
    rintro D c pre W hD _ ⟨rfl, hv, hB, hz⟩ hK
    have hc := hv.cell
    have hf := hv.free
    have HV := Lib.hid hv
    gi_wp2
    refine ⟨by simp, .inl ⟨_, _, rfl, run_takeDeferred hK, ?_⟩⟩
    have hc5 := (HV.out.put (.deferred none) hK rfl).cell
    refine ⟨.int .i64 (cut s.data.toList room : Int), ?_, rfl, below_put _ hB hK (by omega) (by omega)⟩
    simp [results, Try.f13, go_sem, hc5]
end Rle
end Go.Proofs.Ythdpcjahficlnaa
