/- Contracts of layer 5 (front), fifth part: told, Front, After. -/
import Derived.Test.YtlanididnlmnhaaFCalls4
import Derived.Laws.ResultCell
import Derived.OwnWalk
namespace Go.Proofs.Ytlanididnlmnhaa
namespace Front
open Go.RowKit
open Kit (bval)
set_option linter.unusedVariables false

theorem own_none {w : World} {B : Nat} {e : TypeId} {n c : Nat} {xs : List Value} (h : Kit.Own w B e none n c xs) : c = 0 := by
  rcases h.2 with ⟨h2, _⟩ | ⟨g, cap, cur, hv, _⟩
  · injection h2
  · injection hv with ha; cases ha
/-- A cell of a teller that tells nothing. -/
structure Two (w : World) (r : Nat) : Prop where
  c0 : w.cell? ⟨r, 0, none⟩ = some (.slice none 0 0)
  c1 : w.cell? ⟨r, 1, none⟩ = some (.slice none 0 0)
  f0 : w.frozen? ⟨r, 0, none⟩ = false
  f1 : w.frozen? ⟨r, 1, none⟩ = false
  lt : r < w.heap.size
theorem Two.below {w w' : World} {r B : Nat} (h : Two w r) (hb : Below B w w') (hr : r < B) : Two w' r :=
  ⟨by rw [hb.cell (p := ⟨r, 0, none⟩) hr]; exact h.c0, by rw [hb.cell (p := ⟨r, 1, none⟩) hr]; exact h.c1, by rw [hb.frozen (p := ⟨r, 0, none⟩) hr]; exact h.f0, by rw [hb.frozen (p := ⟨r, 1, none⟩) hr]; exact h.f1, by have := h.lt; have := hb.size; omega⟩
theorem Two.new (w : World) : Two (w.alloc (.cells #[.slice none 0 0, .slice none 0 0] 47)) w.heap.size :=
  ⟨by simp, by simp, by simp, by simp, by simp⟩

theorem Below.set2 {D r : Nat} {w w' : World} (h : Below D w w') (hr : D ≤ r) (hw : D ≤ w.heap.size) (u v : Value) : Below D w ((w'.setCell ⟨r, 0, none⟩ u).setCell ⟨r, 1, none⟩ v) :=
  h.trans ((below_of_grown (grown_set w' r 0 u) hr (by have := h.size; omega)).trans (below_of_grown (grown_set _ r 1 v) hr (by have := h.size; simp [World.setCell]; omega)))

theorem load_two (w : World) (r : Nat) (x y : Value) (h0 : w.cell? ⟨r, 0, none⟩ = some x) (h1 : w.cell? ⟨r, 1, none⟩ = some y) : (loadVar 47 ⟨r, 0, none⟩).run Try.prog w = .ok (.agg #[x, y]) w := by
  simp [loadVar, go_sem, h0, h1]
theorem results_two (tmps : Array Value) (w : World) (r : Nat) (e x y : Value) (h4 : tmps.getD 4 undef = .pointer (some ⟨r, 0, none⟩)) (h5 : tmps.getD 5 undef = e) (h0 : w.cell? ⟨r, 0, none⟩ = some x) (h1 : w.cell? ⟨r, 1, none⟩ = some y) :
    (results Try.f23 tmps).run Try.prog w = .ok (.tuple #[.agg #[x, y], e]) w := by
  rw [results_cell_tmp rfl, h4, h5]
  simp [asAddr, load_two w r x y h0 h1, Result.andThen]
theorem set2_c0 {w : World} {r : Nat} {u x y : Value} (h : w.cell? ⟨r, 0, none⟩ = some u) : ((w.setCell ⟨r, 0, none⟩ x).setCell ⟨r, 1, none⟩ y).cell? ⟨r, 0, none⟩ = some x := by
  rw [World.cell?_setCell_other _ _ _ _ (by intro e; injection e with _ e2 _; omega)]; exact World.cell?_setCell_same _ _ _ h
theorem set2_c1 {w : World} {r : Nat} {u x y : Value} (h : w.cell? ⟨r, 1, none⟩ = some u) : ((w.setCell ⟨r, 0, none⟩ x).setCell ⟨r, 1, none⟩ y).cell? ⟨r, 1, none⟩ = some y :=
  World.cell?_setCell_same _ _ _ (u := u) (by rw [World.cell?_setCell_other _ _ _ _ (by intro e; injection e with _ e2 _; omega)]; exact h)
/-- What told answers. -/
def ToldPost (a s : T) (w : World) (e : Ending) (w' : World) : Prop :=
  Below w.heap.size w w' ∧
  ((right a = false ∧ e = .returned (.tuple #[.agg #[.slice none 0 0, .slice none 0 0], .int .i64 1])) ∨
   (right a = true ∧ all a s = false ∧ e = .returned (.tuple #[.agg #[.slice none 0 0, .slice none 0 0], .int .i64 5])) ∨
   (right a = true ∧ all a s = true ∧ ∃ g cp p c, e = .returned (.tuple #[.agg #[.slice (some ⟨g, 0, none⟩) a.length cp, .slice p s.length c], .int .i64 0]) ∧
      Byt w' g (fins a s) ∧ Kit.Src w' p ((plcs a s).map ival) ∧ (p = none → c = 0)))

set_option maxRecDepth 100000 in
set_option maxHeartbeats 1000000 in
theorem told_any (a s : ByteArray) (ha : a.size ≤ 1000) (hs : s.size ≤ 1000) (w : World) :
    Calls Try.prog 23 #[.string a, .string s] w (ToldPost a.data.toList s.data.toList w) := by
  obtain ⟨wA, hA⟩ : ∃ wA, wA = w.alloc (.cells #[.slice none 0 0, .slice none 0 0] 47) := ⟨_, rfl⟩
  have hcv := run_bytes_of_string (P := Try.prog) wA 9 40 5 a Try.underlying9 Try.underlying40 Try.underlying5
  have hge := grownCap_ge wA a.size 0 5
  have hle := grownCap_le_maxLen wA a.size 0 5 (by unfold maxLen; omega)
  have hby := Byt.new wA a (grownCap wA a.size 0 5) 5
  obtain ⟨cp, hcp⟩ : ∃ cp, grownCap wA a.size 0 5 = cp := ⟨_, rfl⟩
  rw [hcp] at hcv hge hle hby
  obtain ⟨wB, hB⟩ : ∃ wB, wA.drew.alloc (.cells (bytesRow a cp) 5 ((bytesRow a cp).size, (bytesRow a cp).size + 1)) = wB := ⟨_, rfl⟩
  rw [hB] at hcv hby
  have hsz : wA.heap.size = w.heap.size + 1 := by rw [hA]; simp
  have hsz2 : wB.heap.size = w.heap.size + 2 := by
    rw [← hB]
    show (wA.heap.push _).size = _
    rw [Array.size_push]; omega
  rw [hsz] at hcv hby
  have htA : Two wA w.heap.size := by rw [hA]; exact Two.new w
  have hbA : Below w.heap.size w wA := by rw [hA]; exact (Below.refl _ _).alloc (Nat.le_refl _) _
  have hbB : Below (w.heap.size + 1) wA wB := by rw [← hB]; exact (Below.refl _ _).drew.alloc (by show _ ≤ wA.heap.size; omega) _
  obtain ⟨wC, hC⟩ : ∃ wC, wC = wB.alloc (.cells #[.slice (some ⟨w.heap.size + 1, 0, none⟩) a.size cp, .slice none 0 0] 47) := ⟨_, rfl⟩
  have hszC : wC.heap.size = w.heap.size + 3 := by
    rw [hC]
    show (wB.heap.push _).size = _
    rw [Array.size_push]; omega
  have hbC : Below (w.heap.size + 1) wA wC := by rw [hC]; exact hbB.alloc (by omega) _
  have htC := htA.below hbC (by omega)
  have hbyC : Byt wC (w.heap.size + 1) a.data.toList := by rw [hC]; exact hby.grown (World.grownBy_alloc _ _ none) (by simp)
  have hC0 : wC.cell? ⟨w.heap.size + 2, 0, none⟩ = some (.slice (some ⟨w.heap.size + 1, 0, none⟩) a.size cp) := by rw [hC, ← hsz2]; simp
  have hC1 : wC.cell? ⟨w.heap.size + 2, 1, none⟩ = some (.slice none 0 0) := by rw [hC, ← hsz2]; simp
  have hfC : wC.frozen? ⟨w.heap.size + 2, 1, none⟩ = false := by rw [hC, ← hsz2]; simp
  have HB := Lib.hid hbC
  have HA := Lib.hid hbA
  have HBC := Lib.hid hbyC
  have HTC := Lib.hid htC
  have H0 := Lib.hid hC0
  have H1 := Lib.hid hC1
  have HF := Lib.hid hfC
  have hcv2 := hcv
  clear hbC hbA hbyC htC hC0 hC1 hfC hby hbB htA hB hcp
  subst hA
  go_enter Try.func23, Try.ntmps23
  go_wp2_with fail
  rw [← hC]
  refine (right_any a (by unfold maxLen; omega) _).mono ?_
  rintro e w1 ⟨rfl, b1⟩
  clear hcv hcv2
  have hT1 := HTC.out.below b1 (by omega)
  have hB1 : Below (w.heap.size + 1) (w.alloc (.cells #[.slice none 0 0, .slice none 0 0] 47)) w1 := HB.out.trans (b1.mono (by omega))
  by_cases hr : right a.data.toList = true
  · rw [hr]
    have htel : Tel w1 (w.heap.size + 2) (w.heap.size + 1) a.size cp (w.heap.size + 3) a.data.toList [] := {
      byt := HBC.out.below b1 (by omega), len := len_text a, ncp := hge, cpm := hle, gB := by omega, bB := by omega, ne := by omega
      BB := by have := b1.size; omega
      bytes := by rw [b1.cell (p := ⟨w.heap.size + 2, 0, none⟩) (by show w.heap.size + 2 < _; omega)]; exact H0.out
      places := ⟨none, 0, Kit.Own.start _ _ _, by rw [b1.cell (p := ⟨w.heap.size + 2, 1, none⟩) (by show w.heap.size + 2 < _; omega)]; exact H1.out⟩
      free := by rw [b1.frozen (p := ⟨w.heap.size + 2, 1, none⟩) (by show w.heap.size + 2 < _; omega)]; exact HF.out }
    have HT := Lib.hid htel
    have HR := Lib.hid hr
    clear htel hr
    go_wp2
    go_loopw [18] (fun i wr => ∃ k : Nat, k ≤ s.size ∧ i = .int .i64 k ∧ RowKit.Hid (Tel wr (w.heap.size + 2) (w.heap.size + 1) a.size cp (w.heap.size + 3) (fins a.data.toList (s.data.toList.take k)) (plcs a.data.toList (s.data.toList.take k))) ∧ RowKit.Hid (all a.data.toList (s.data.toList.take k) = true) ∧ Below (w.heap.size + 1) (w.alloc (.cells #[.slice none 0 0, .slice none 0 0] 47)) wr) (fun i _ => s.size - (intOf i).toNat)
    case atStart => exact ⟨0, by omega, rfl, HT, Lib.hid rfl, hB1⟩
    case round =>
      obtain ⟨k, hk, rfl, ht, hal, hb⟩ := hrel
      have hT2 := (Two.new w).below hb (by omega)
      by_cases hlt : k < s.size
      · have hlen : (plcs a.data.toList (s.data.toList.take k)).length = k := by rw [plcs_length, List.length_take, len_text]; omega
        go_wp2_with fail
        refine (tell_any _ _ _ _ _ _ (w.heap.size + 1) _ _ s[k] ht.out (by omega) (by omega) (by omega)).mono ?_
        rintro e w2 (⟨hno, rfl, rfl⟩ | ⟨hin, rfl, ht2, hb2⟩)
        · obtain ⟨e0, e1, e2, e3, e4⟩ := hT2
          go_wp2
          have hno2 : all a.data.toList s.data.toList = false := by
            rw [Bool.eq_false_iff]
            intro h
            rw [all_iff] at h
            exact hno ((fins_mem _ _ hal.out _).2 (h _ (by rw [← get_text s k hlt]; exact List.getElem_mem _)))
          refine bodyPost_ret (results_two _ _ w.heap.size _ _ _ rfl rfl (set2_c0 e0) (set2_c1 e1)) rfl ⟨HA.out.trans (Below.set2 (hb.mono (by omega)) (Nat.le_refl _) (by omega) _ _), .inr (.inl ⟨HR.out, hno2, rfl⟩)⟩
        · go_wp2
          go_roundw
          case rel =>
            refine ⟨k + 1, by omega, by go_num, ?_, ?_, hb.trans hb2⟩
            · rw [List.take_succ_eq_append_getElem (by rw [len_text]; exact hlt), fins_snoc, plcs_snoc]
              exact Lib.hid ht2
            · rw [List.take_succ_eq_append_getElem (by rw [len_text]; exact hlt), all_snoc, hal.out, Bool.true_and, decide_eq_true_eq]
              exact Lib.hid ((fins_mem _ _ hal.out _).1 hin)
          case measure => simp [intOf]; omega
      · obtain rfl : k = s.size := by omega
        obtain ⟨e0, e1, e2, e3, e4⟩ := hT2
        have hfull : s.data.toList.take s.size = s.data.toList := List.take_of_length_le (by rw [len_text]; omega)
        rw [hfull] at ht hal
        obtain ⟨pa, pc, hown, hc1⟩ := ht.out.places
        have hc0 := ht.out.bytes
        have hpl : (plcs a.data.toList s.data.toList).length = s.size := by rw [plcs_length, len_text]
        rw [hpl] at hc1 hown
        have HOWN := Lib.hid hown
        clear hown hpl hfull
        go_wp2
        try simp only [Exit.inBlock, Exit.then]
        have hgr : wr.grownBy ((wr.setCell ⟨w.heap.size, 0, none⟩ (.slice (some ⟨w.heap.size + 1, 0, none⟩) a.size cp)).setCell ⟨w.heap.size, 1, none⟩ (.slice pa s.size pc)) (some w.heap.size) := grown_trans (grown_set _ _ _ _) (grown_set _ _ _ _)
        refine bodyPost_ret (results_two _ _ w.heap.size _ _ _ rfl rfl (set2_c0 e0) (set2_c1 e1)) rfl ⟨HA.out.trans (Below.set2 (hb.mono (by omega)) (Nat.le_refl _) (by omega) _ _), .inr (.inr ⟨HR.out, hal.out, w.heap.size + 1, cp, pa, pc, ?_, ?_, ?_, fun h => by subst h; exact own_none HOWN.out⟩)⟩
        · rw [len_text, len_text]; rfl
        · exact ht.out.byt.grown hgr (by intro e; injection e with e; omega)
        · exact (own_set (own_set HOWN.out w.heap.size 0 _ (by omega)) w.heap.size 1 _ (by omega)).src
  · rw [Bool.not_eq_true] at hr
    rw [hr]
    obtain ⟨e0, e1, e2, e3, e4⟩ := hT1
    go_wp2
    try simp only [Exit.inBlock, Exit.then]
    refine bodyPost_ret (results_two _ _ w.heap.size _ _ _ rfl rfl (set2_c0 e0) (set2_c1 e1)) rfl ⟨HA.out.trans (Below.set2 (hB1.mono (by omega)) (Nat.le_refl _) (by omega) _ _), .inl ⟨hr, rfl⟩⟩
end Front
end Go.Proofs.Ytlanididnlmnhaa
