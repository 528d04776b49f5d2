/- Turned: a shelf in which one thing is another one (chapter 21's law texts). -/
import Derived.Test.YtpkhafijmbgcnaaDLaw0
namespace Go.Proofs.Ytpkhafijmbgcnaa
namespace Cache
open Go.RowKit Go.Shelf
set_option linter.unusedVariables false
set_option linter.unusedSimpArgs false

theorem flat_set : ∀ (l : List Hd) (j : Nat) (y : Hd), j < l.length → flat (l.set j y) = (((flat l).set (j * 3) (.int .i64 y.blk)).set (j * 3 + 1) (.int .i64 y.st)).set (j * 3 + 2) (.string y.txt)
  | [], j, y, h => by simp at h
  | x :: l, 0, y, h => by rfl
  | x :: l, j + 1, y, h => by
    have ih := flat_set l j y (by simpa using h)
    have e3 : (j + 1) * 3 = j * 3 + 3 := by omega
    rw [e3]
    show hcells x ++ flat (l.set j y) = _
    rw [ih]
    rfl
theorem flat_set_st (l : List Hd) (j : Nat) (x : Int) (hj : j < l.length) : flat (l.set j ⟨l[j].blk, x, l[j].txt⟩) = (flat l).set (j * 3 + 1) (.int .i64 x) := by
  obtain ⟨e0, e1, e2⟩ := flat_get l j l[j] (List.getElem?_eq_getElem hj)
  rw [flat_set l j _ hj]
  apply List.ext_getElem?
  intro i
  simp only [List.getElem?_set, List.length_set]
  have hl := flat_length l
  split
  · rename_i h; subst h; split
    · split
      · omega
      · rw [e2]
    · omega
  · split
    · rfl
    · split
      · rename_i h; subst h; split
        · rw [e0]
        · omega
      · rfl
theorem flat_set_blk (l : List Hd) (j : Nat) (x : Int) (hj : j < l.length) : flat (l.set j ⟨x, l[j].st, l[j].txt⟩) = (flat l).set (j * 3) (.int .i64 x) := by
  obtain ⟨e0, e1, e2⟩ := flat_get l j l[j] (List.getElem?_eq_getElem hj)
  rw [flat_set l j _ hj]
  apply List.ext_getElem?
  intro i
  simp only [List.getElem?_set, List.length_set]
  have hl := flat_length l
  split
  · rename_i h; subst h; split
    · split
      · omega
      · rw [e2]
    · omega
  · split
    · rename_i h; subst h; split
      · split
        · omega
        · rw [e1]
      · omega
    · rfl
theorem OwnH.st {w : World} {B g n c : Nat} {l : List Hd} (h : OwnH w B (some ⟨g, 0, none⟩) n c l) (j : Nat) (hj : j < l.length) (x : Int) : OwnH (w.setCell ⟨g, j * 3 + 1, none⟩ (.int .i64 x)) B (some ⟨g, 0, none⟩) n c (l.set j ⟨l[j].blk, x, l[j].txt⟩) := by
  have h1 := (World.ownsRow.stored h (j * 3 + 1) (.int .i64 x)).1
  unfold OwnH
  rw [flat_set_st l j x hj]
  exact h1
theorem OwnH.bl {w : World} {B g n c : Nat} {l : List Hd} (h : OwnH w B (some ⟨g, 0, none⟩) n c l) (j : Nat) (hj : j < l.length) (x : Int) : OwnH (w.setCell ⟨g, j * 3, none⟩ (.int .i64 x)) B (some ⟨g, 0, none⟩) n c (l.set j ⟨x, l[j].st, l[j].txt⟩) := by
  have h1 := (World.ownsRow.stored h (j * 3) (.int .i64 x)).1
  unfold OwnH
  rw [flat_set_blk l j x hj]
  exact h1
theorem OwnH.cell {w : World} {B g n c : Nat} {l : List Hd} (h : OwnH w B (some ⟨g, 0, none⟩) n c l) (i : Nat) (hi : i < n * 3) : ∃ v, w.cell? ⟨g, i, none⟩ = some v := by
  have h1 := World.ownsRow.cellAt h i hi
  have h2 := h.len
  have h3 := flat_length l
  rw [h1, List.getElem?_eq_getElem (by omega)]
  exact ⟨_, rfl⟩
/-- What the turn leaves: the shelf in its cell, on elements of the call's own. -/
structure TurnW (w : World) (O R : Nat) (c : Sh) (a : Option Addr) (k : Nat) (V : World) : Prop where
  cell : CellSh V O c a k
  res : V.heap[R]? = some (.cells #[.int .i64 0, .int .i64 0, .slice none 0 0] TS (0, 0))
  below : Below w.heap.size w V
/-- What Turned answers. -/
def TurnPost (n : Nat) (w : World) (e : Ending) (w' : World) : Prop := ∃ c' a' k', e = .returned (.agg #[.int .i64 c'.room, .int .i64 c'.clock, .slice a' c'.held.length k']) ∧ ShW w' c' a' k' ∧ c'.held.length ≤ n + 1 ∧ Below w.heap.size w w'
theorem TurnW.drew {w : World} {O R : Nat} {c : Sh} {a : Option Addr} {k : Nat} {V : World} (h : TurnW w O R c a k V) : TurnW w O R c a k V.drew := ⟨⟨h.cell.blk, h.cell.sh.below (Below.refl _ _).drew rfl⟩, h.res, h.below.drew⟩
theorem far_cell {w : World} {B i k j : Nat} {x : Value} (h : k ≠ B) : (w.setCell ⟨B, i, none⟩ x).cell? ⟨k, j, none⟩ = w.cell? ⟨k, j, none⟩ := by
  have h' : B ≠ k := fun e => h e.symm
  simp [World.cell?, World.setCell, Array.getElem?_modify, h']
theorem slot_block {w : World} {B : Nat} {u v t x : Value} (i : Nat) (h : w.heap[B]? = some (.cells #[u, v, t] TS (0, 0))) : (w.setCell ⟨B, i, none⟩ x).heap[B]? = some (.cells (#[u, v, t].setIfInBounds i x) TS (0, 0)) := by
  simp [World.setCell, Array.getElem?_modify, h]
theorem far_block {w : World} {B i k : Nat} {x : Value} (h : k ≠ B) : (w.setCell ⟨B, i, none⟩ x).heap[k]? = w.heap[k]? := by
  have h' : B ≠ k := fun e => h e.symm
  simp [World.setCell, Array.getElem?_modify, h']
/-- Elements in blocks behind 'O' are not in O's cell. -/
theorem HSrc.slot {w : World} {a : Option Addr} {l : List Hd} {O i : Nat} {x : Value} (hs : HSrc w a l) (h : ∀ b off, a = some ⟨b, off, none⟩ → b ≠ O) : HSrc (w.setCell ⟨O, i, none⟩ x) a l := by
  intro j y hj
  obtain ⟨b, off, ha, h0, h1, h2⟩ := hs j y hj
  have hc : ∀ q, (w.setCell ⟨O, i, none⟩ x).cell? ⟨b, q, none⟩ = w.cell? ⟨b, q, none⟩ := fun q => World.cell?_of_block (far_block (h b off ha))
  exact ⟨b, off, ha, by rw [hc]; exact h0, by rw [hc]; exact h1, by rw [hc]; exact h2⟩
theorem OwnH.ne {w : World} {B O n c : Nat} {a : Option Addr} {l : List Hd} (h : OwnH w B a n c l) (hO : O < B) : ∀ b off, a = some ⟨b, off, none⟩ → b ≠ O := by
  intro b off ha e
  have := h.block b (by rw [ha]; rfl)
  omega
theorem OwnH.shw {w : World} {B n k : Nat} {a : Option Addr} {l : List Hd} (room clock : Int) (h : OwnH w B a n k l) (hw : Wf l) : ShW w ⟨room, clock, l⟩ a k := by
  refine ⟨h.src, fun e => ?_, hw⟩
  subst e
  rcases h.2 with ⟨h1, h2⟩ | ⟨g, cap, cur, hv, _⟩
  · injection h1 with _ _ h3
    have := h.len
    exact ⟨by show l.length = 0; omega, h3⟩
  · injection hv with h1
    cases h1
theorem Wf.set {l : List Hd} (h : Wf l) (j : Nat) (y : Hd) (h1 : -9223372036854775808 ≤ y.blk) (h2 : y.blk ≤ 9223372036854775807) : Wf (l.set j y) := by
  intro x hx
  rcases List.mem_or_eq_of_mem_set hx with hx | rfl
  · exact h x hx
  · exact ⟨h1, h2⟩

set_option maxRecDepth 100000 in
set_option maxHeartbeats 4000000 in
theorem turned_any (c : Sh) (a : Option Addr) (cap : Nat) (which x : Int) (w : World) (hm : c.held.length ≤ 1000) (hs : ShW w c a cap) (hw1 : -9223372036854775808 ≤ which) (hw2 : which ≤ 9223372036854775807) (hx1 : -9223372036854775808 ≤ x) (hx2 : x ≤ 9223372036854775807) :
    Calls Try.prog 15 #[.agg #[.int .i64 c.room, .int .i64 c.clock, .slice a c.held.length cap], .int .i64 which, .int .i64 x] w (TurnPost c.held.length w) := by
  obtain ⟨room, clock, l⟩ := c
  simp only at hs hm ⊢
  obtain ⟨s, hs6, hps⟩ := pick_nat which 6 hw1 hw2 (by omega) (by omega) 6 rfl
  have HPS := Lib.hid hps
  have hnil := hs.nil
  simp only at hnil
  have hwf := hs.wf
  simp only at hwf
  have HWF := Lib.hid hwf
  obtain ⟨W1, hW1⟩ : ∃ W, w.alloc (.cells #[.int .i64 room, .int .i64 clock, .slice a l.length cap] TS) = W := ⟨_, rfl⟩
  obtain ⟨W2, hW2⟩ : ∃ W, W1.alloc (.cells #[.int .i64 0, .int .i64 0, .slice none 0 0] TS) = W := ⟨_, rfl⟩
  obtain ⟨W3, hW3⟩ : ∃ W, W2.alloc (.cells #[.int .i64 room, .int .i64 clock, .slice a l.length cap] TS) = W := ⟨_, rfl⟩
  obtain ⟨B0, hB0⟩ : ∃ B, w.heap.size = B := ⟨_, rfl⟩
  have z1 : W1.heap.size = B0 + 1 := by rw [← hW1, size_alloc', hB0]
  have z2 : W2.heap.size = B0 + 2 := by rw [← hW2, size_alloc', z1]
  have z3 : W3.heap.size = B0 + 3 := by rw [← hW3, size_alloc', z2]
  have b1 : Below B0 w W1 := by rw [← hW1, ← hB0]; exact (Below.refl _ _).alloc (Nat.le_refl _) _
  have b2 : Below (B0 + 1) W1 W2 := by rw [← hW2, ← z1]; exact (Below.refl _ _).alloc (Nat.le_refl _) _
  have b3 : Below (B0 + 2) W2 W3 := by rw [← hW3, ← z2]; exact (Below.refl _ _).alloc (Nat.le_refl _) _
  have b123 : Below B0 w W3 := (b1.trans (b2.mono (by omega))).trans (b3.mono (by omega))
  have k1 : CellSh W1 B0 ⟨room, clock, l⟩ a cap := by rw [← hW1, ← hB0]; exact CellSh.new hs
  have k1' : CellSh W2 B0 ⟨room, clock, l⟩ a cap := k1.below b2 z1.symm
  have k2 : CellSh W3 B0 ⟨room, clock, l⟩ a cap := k1'.below b3 z2.symm
  have k3 : CellSh W3 (B0 + 2) ⟨room, clock, l⟩ a cap := by rw [← hW3, ← z2]; exact CellSh.new k1'.sh
  have r3 : W3.heap[B0 + 1]? = some (.cells #[.int .i64 0, .int .i64 0, .slice none 0 0] TS (0, 0)) := by
    rw [b3.block _ (by omega), ← hW2, ← z1]
    exact World.alloc_heap_new _ _
  obtain ⟨n, hn⟩ : ∃ n, l.length = n := ⟨_, rfl⟩
  have HN := Lib.hid hn
  obtain ⟨a1, q1, w1, hr1, ho1, hg1⟩ := OwnH.app (ty := 23) (w := W3) (OwnH.start W3 (B0 + 3)) a n cap l k3.sh.src hn (fun e => by have := hnil e; omega) (by omega) (by omega)
  rw [Nat.zero_add] at hr1 ho1
  rw [List.nil_append] at ho1
  have bg : Below (B0 + 3) W3 w1 := (Below.refl _ _).grown hg1 (by omega) (fun q hq => by cases hq)
  have O1 := Lib.hid ho1
  have BW := Lib.hid (b123.trans (bg.mono (by omega)))
  have k4 : w1.heap[B0 + 2]? = some (.cells #[.int .i64 room, .int .i64 clock, .slice a l.length cap] TS (0, 0)) := (bg.block _ (by omega)).trans k3.blk
  have r4 : w1.heap[B0 + 1]? = some (.cells #[.int .i64 0, .int .i64 0, .slice none 0 0] TS (0, 0)) := (bg.block _ (by omega)).trans r3
  obtain ⟨y0, y1, y2, g0, g1, g2⟩ := k2.cells
  obtain ⟨p0, p1, p2, _, _, _⟩ := k1'.cells
  obtain ⟨x0, x1, x2, f0, f1, f2⟩ := Cells3.of k4
  obtain ⟨V, hV⟩ : ∃ V, w1.setCell ⟨B0 + 2, 2, none⟩ (.slice a1 n q1) = V := ⟨_, rfl⟩
  have OV : OwnH V (B0 + 3) a1 n q1 l := by rw [← hV]; exact ho1.set (by omega) _
  have kV : V.heap[B0 + 2]? = some (.cells #[.int .i64 room, .int .i64 clock, .slice a1 n q1] TS (0, 0)) := by rw [← hV]; exact slot_block 2 k4
  have TV : TurnW w (B0 + 2) (B0 + 1) ⟨room, clock, l⟩ a1 q1 V := by
    refine ⟨⟨?_, OV.shw room clock hwf⟩, ?_, ?_⟩
    · rw [kV]; simp only [shobj, hn]
    · rw [← hV, far_block (by omega)]; exact r4
    · rw [hB0, ← hV]; exact BW.out.setCell (by show B0 ≤ B0 + 2; omega) _
  have HOV := Lib.hid OV
  have HTV := Lib.hid TV
  rw [hn] at y2 x2 p2 hW1 hW3 ⊢
  clear hs hps hnil hwf b1 b2 b3 b123 k1 k1' k2 k3 r3 ho1 hg1 bg k4 r4 OV kV TV
  have fin : ∀ (room' clock' : Int) (l' : List Hd) (a' : Option Addr) (k' m : Nat) (U : World), TurnW w (B0 + 2) (B0 + 1) ⟨room', clock', l'⟩ a' k' U → l'.length = m → m ≤ n + 1 → (loadVar TS ⟨B0 + 1, 0, none⟩).run Try.prog (put3 U (B0 + 1) (.int .i64 room') (.int .i64 clock') (.slice a' m k')) = .ok (.agg #[.int .i64 room', .int .i64 clock', .slice a' m k']) (put3 U (B0 + 1) (.int .i64 room') (.int .i64 clock') (.slice a' m k')) ∧ TurnPost n w (.returned (.agg #[.int .i64 room', .int .i64 clock', .slice a' m k'])) (put3 U (B0 + 1) (.int .i64 room') (.int .i64 clock') (.slice a' m k')) := by
    intro room' clock' l' a' k' m U ht hlm hle
    subst hlm
    have hz : CellSh U (B0 + 1) zero none 0 := ⟨ht.res, ShW.zero _⟩
    have hz2 := hz.set ht.cell.sh
    obtain ⟨e0, e1, e2, _, _, _⟩ := hz2.cells
    exact ⟨load_sh _ _ _ _ _ e0 e1 e2, ⟨room', clock', l'⟩, a', k', rfl, hz2.sh, hle, Below.put3 ht.below (by omega) _ _ _⟩
  have FIN := Lib.hid fin
  clear fin
  go_enter Try.func15, Try.ntmps15
  go_wp2_with (at_builtin; refine Kit.app_eq rfl (.const (.slice none 0 0)) (.tmp 10) 23 rfl rfl rfl hr1 ?_)
  clear p0 p1 p2 y0 y1 y2 g0 g1 g2 x0 x1 x2 f0 f1 f2 hV hW1 hW2 hW3 z1 z2 z3 hr1
  refine (HPS.out _).mono ?_
  rintro e w9 ⟨rfl, rfl⟩
  have hcase : s = 0 ∨ s = 1 ∨ s = 2 ∨ s = 3 ∨ s = 4 ∨ s = 5 := by omega
  obtain ⟨x0, x1, x2, f0, f1, f2⟩ := HTV.out.cell.cells
  rw [HN.out] at x2
  obtain ⟨r0, r1, r2, q0, q1', q2⟩ := Cells3.of HTV.out.res
  rcases hcase with rfl | rfl | rfl | rfl | rfl | rfl
  · have T2 : TurnW w (B0 + 2) (B0 + 1) ⟨x, clock, l⟩ a1 q1 (V.setCell ⟨B0 + 2, 0, none⟩ (.int .i64 x)) := by
      have hb := HTV.out.cell.blk
      refine ⟨⟨slot_block 0 hb, HTV.out.cell.sh.src.slot (HOV.out.ne (by omega)), HTV.out.cell.sh.nil, HTV.out.cell.sh.wf⟩, ?_, HTV.out.below.setCell (by show _ ≤ B0 + 2; omega) _⟩
      rw [far_block (by omega)]
      exact HTV.out.res
    obtain ⟨s0, s1, s2, t0, t1, t2⟩ := T2.cell.cells
    obtain ⟨v0, v1, v2, _, _, _⟩ := Cells3.of T2.res
    simp only [HN.out] at s2
    have HFIN := Lib.hid (FIN.out x clock l a1 q1 n _ T2 HN.out (Nat.le_succ _))
    clear T2
    go_wp2
    refine bodyPost_ret (v := .agg #[.int .i64 x, .int .i64 clock, .slice a1 n q1]) ?_ rfl ?_
    · exact results_cellv rfl _ _ _ ⟨B0 + 1, 0, none⟩ _ rfl HFIN.out.1
    · exact HFIN.out.2
  · have T2 : TurnW w (B0 + 2) (B0 + 1) ⟨room, x, l⟩ a1 q1 (V.setCell ⟨B0 + 2, 1, none⟩ (.int .i64 x)) := by
      have hb := HTV.out.cell.blk
      refine ⟨⟨slot_block 1 hb, HTV.out.cell.sh.src.slot (HOV.out.ne (by omega)), HTV.out.cell.sh.nil, HTV.out.cell.sh.wf⟩, ?_, HTV.out.below.setCell (by show _ ≤ B0 + 2; omega) _⟩
      rw [far_block (by omega)]
      exact HTV.out.res
    obtain ⟨s0, s1, s2, t0, t1, t2⟩ := T2.cell.cells
    obtain ⟨v0, v1, v2, _, _, _⟩ := Cells3.of T2.res
    simp only [HN.out] at s2
    have HFIN := Lib.hid (FIN.out room x l a1 q1 n _ T2 HN.out (Nat.le_succ _))
    clear T2
    go_wp2
    refine bodyPost_ret (v := .agg #[.int .i64 room, .int .i64 x, .slice a1 n q1]) ?_ rfl ?_
    · exact results_cellv rfl _ _ _ ⟨B0 + 1, 0, none⟩ _ rfl HFIN.out.1
    · exact HFIN.out.2
  · rcases Nat.eq_zero_or_pos n with hn0 | hn0
    · have hz : decide (0 < n) = false := decide_eq_false (by omega)
      clear hn0
      have T2 := HTV.out
      have HFIN := Lib.hid (FIN.out room clock l a1 q1 n _ T2 HN.out (Nat.le_succ _))
      clear T2
      go_wp2
      refine bodyPost_ret (v := .agg #[.int .i64 room, .int .i64 clock, .slice a1 n q1]) ?_ rfl ?_
      · exact results_cellv rfl _ _ _ ⟨B0 + 1, 0, none⟩ _ rfl HFIN.out.1
      · exact HFIN.out.2
    · have hz : decide (0 < n) = true := decide_eq_true hn0
      obtain ⟨g, rfl, hg1, hg2, hg3⟩ := HOV.out.at_ hn0
      have hgO : B0 + 2 ≠ g := by omega
      have hgR : B0 + 1 ≠ g := by omega
      obtain ⟨y, hy, hy1, hy2⟩ : ∃ y, which.tdiv 6 = y ∧ -9223372036854775808 ≤ y ∧ y ≤ 9223372036854775807 := by
        refine ⟨_, rfl, ?_⟩
        rcases Int.le_total 0 which with h | h
        · rw [Int.tdiv_eq_ediv_of_nonneg h]; omega
        · rw [show which = -(-which) by omega, Int.neg_tdiv, Int.tdiv_eq_ediv_of_nonneg (by omega)]; omega
      have hyw : IntKind.i64.wrap y = y := IntWalk.i64_in _ ⟨by omega, by omega⟩
      obtain ⟨r, hr, hpr⟩ := pick_nat y n hy1 hy2 hn0 (by omega) (n : Int) rfl
      have HPR := Lib.hid hpr
      have hrl : r < l.length := by rw [HN.out]; exact hr
      have hr0 : (0 : Int) ≤ (r : Int) := by omega
      have hrn : (r : Int) < (n : Int) := by omega
      obtain ⟨v, hv⟩ := HOV.out.cell (r * 3 + 1) (by omega)
      have hv' : V.drew.cell? ⟨g, r * 3 + 1, none⟩ = some v := hv
      have hvf : V.drew.frozen? ⟨g, r * 3 + 1, none⟩ = false := World.ownsRow.frozenAt HOV.out _
      clear hpr hv
      go_upto_region 10 with fail
      refine wp_region_held_drew (S := fun w' => w'.cell? ⟨B0 + 2, 2, none⟩ = some (.slice (some ⟨g, 0, none⟩) n q1)) (by kernel_rfl) x2 (fun hHeld => ?_)
      refine wpAnyH_take (i := 0) (v := .pointer (some ⟨B0 + 2, 2, none⟩)) rfl (by kernel_rfl) (by kernel_rfl) (by kernel_rfl) (fun _ _ _ h => h) (Or.inl ⟨by rfl, fun w hSw => by (try dsimp only at hSw); go_simp⟩) hHeld ?_
      try simp only [List.getElem_toArray, List.getElem_cons_succ, List.getElem_cons_zero, Act.put, List.setIfInBounds_toArray, List.set_cons_zero, List.set_cons_succ]
      refine wpAnyH_take (i := 1) (v := .slice (some ⟨g, 0, none⟩) n q1) rfl (by kernel_rfl) (by kernel_rfl) (by kernel_rfl) (fun _ _ _ h => h) (Or.inl ⟨by rfl, fun w hSw => by (try dsimp only at hSw); go_simp⟩) hHeld ?_
      try simp only [List.getElem_toArray, List.getElem_cons_succ, List.getElem_cons_zero, Act.put, List.setIfInBounds_toArray, List.set_cons_zero, List.set_cons_succ]
      refine wpAnyH_take (i := 2) (v := .int .i64 which) rfl (by kernel_rfl) (by kernel_rfl) (by kernel_rfl) (fun _ _ _ h => h) (Or.inl ⟨by rfl, fun w hSw => by (try dsimp only at hSw); go_simp⟩) hHeld ?_
      try simp only [List.getElem_toArray, List.getElem_cons_succ, List.getElem_cons_zero, Act.put, List.setIfInBounds_toArray, List.set_cons_zero, List.set_cons_succ]
      refine wpAnyH_take (i := 3) (v := .int .i64 y) rfl (by kernel_rfl) (by kernel_rfl) (by kernel_rfl) (fun _ _ _ h => h) (Or.inl ⟨by rfl, fun w hSw => by (go_simp; try rw [hy]; try exact hyw)⟩) hHeld ?_
      try simp only [List.getElem_toArray, List.getElem_cons_succ, List.getElem_cons_zero, Act.put, List.setIfInBounds_toArray, List.set_cons_zero, List.set_cons_succ]
      refine wpAnyH_take (i := 4) (v := .pointer (some ⟨B0 + 2, 2, none⟩)) rfl (by kernel_rfl) (by kernel_rfl) (by kernel_rfl) (fun _ _ _ h => h) (Or.inl ⟨by rfl, fun w hSw => by (try dsimp only at hSw); go_simp⟩) hHeld ?_
      try simp only [List.getElem_toArray, List.getElem_cons_succ, List.getElem_cons_zero, Act.put, List.setIfInBounds_toArray, List.set_cons_zero, List.set_cons_succ]
      refine wpAnyH_take (i := 5) (v := .slice (some ⟨g, 0, none⟩) n q1) rfl (by kernel_rfl) (by kernel_rfl) (by kernel_rfl) (fun _ _ _ h => h) (Or.inl ⟨by rfl, fun w hSw => by (try dsimp only at hSw); go_simp⟩) hHeld ?_
      try simp only [List.getElem_toArray, List.getElem_cons_succ, List.getElem_cons_zero, Act.put, List.setIfInBounds_toArray, List.set_cons_zero, List.set_cons_succ]
      refine wpAnyH_take (i := 6) (v := .int .i64 (n : Int)) rfl (by kernel_rfl) (by kernel_rfl) (by kernel_rfl) (fun _ _ _ h => h) (Or.inl ⟨by rfl, fun w hSw => by (try dsimp only at hSw); go_simp⟩) hHeld ?_
      try simp only [List.getElem_toArray, List.getElem_cons_succ, List.getElem_cons_zero, Act.put, List.setIfInBounds_toArray, List.set_cons_zero, List.set_cons_succ]
      refine wpAnyH_take (i := 8) (v := .int .i64 x) rfl (by kernel_rfl) (by kernel_rfl) (by kernel_rfl) (fun _ _ _ h => h) (Or.inl ⟨by rfl, fun w hSw => by (try dsimp only at hSw); go_simp⟩) hHeld ?_
      try simp only [List.getElem_toArray, List.getElem_cons_succ, List.getElem_cons_zero, Act.put, List.setIfInBounds_toArray, List.set_cons_zero, List.set_cons_succ]
      refine wpAnyH_ready (rs := [7]) (by kernel_rfl) (by simp) ?_
      refine AllReadyH.cons rfl (fun K hK => ?_) ?_
      · go_simp
        go_at_call 10
        refine (HPR.out _).mono ?_
        rintro e w9 ⟨rfl, rfl⟩
        refine hK.out _ _ ?_ (fun hHeld => ?_)
        · exact hHeld
        clear hK K
        try simp only [List.getElem_toArray, List.getElem_cons_succ, List.getElem_cons_zero, Act.put, List.setIfInBounds_toArray, List.set_cons_zero, List.set_cons_succ]
        refine wpAnyH_take (i := 9) (v := .pointer (some ⟨g, r * 3, none⟩)) rfl (by kernel_rfl) (by kernel_rfl) (by kernel_rfl) (fun _ _ _ h => h) (Or.inl ⟨by rfl, fun w hSw => by (try dsimp only at hSw); go_simp⟩) hHeld ?_
        try simp only [List.getElem_toArray, List.getElem_cons_succ, List.getElem_cons_zero, Act.put, List.setIfInBounds_toArray, List.set_cons_zero, List.set_cons_succ]
        refine wpAnyH_take (i := 10) (v := .pointer (some ⟨g, r * 3 + 1, none⟩)) rfl (by kernel_rfl) (by kernel_rfl) (by kernel_rfl) (fun _ _ _ h => h) (Or.inl ⟨by rfl, fun w hSw => by (try dsimp only at hSw); go_simp⟩) hHeld ?_
        try simp only [List.getElem_toArray, List.getElem_cons_succ, List.getElem_cons_zero, Act.put, List.setIfInBounds_toArray, List.set_cons_zero, List.set_cons_succ]
        refine wpAnyH_ready (rs := [11]) (by kernel_rfl) (by simp) ?_
        refine AllReadyH.cons rfl (fun K hK => ?_) ?_
        · go_simp
          refine hK.out _ _ ?_ (fun hHeld => ?_)
          · exact (far_cell hgO).trans hHeld
          clear hK K
          try simp only [List.getElem_toArray, List.getElem_cons_succ, List.getElem_cons_zero, Act.put, List.setIfInBounds_toArray, List.set_cons_zero, List.set_cons_succ]
          refine wpAnyH_done (by kernel_rfl) ?_ _
          have T1 : TurnW w (B0 + 2) (B0 + 1) ⟨room, clock, l.set r ⟨l[r].blk, x, l[r].txt⟩⟩ (some ⟨g, 0, none⟩) q1 (V.setCell ⟨g, r * 3 + 1, none⟩ (.int .i64 x)) := by
            have hb := HTV.out.cell.blk
            refine ⟨⟨?_, OwnH.shw room clock (OwnH.st HOV.out r hrl x) (Wf.set HWF.out r _ (HWF.out _ (List.getElem_mem hrl)).1 (HWF.out _ (List.getElem_mem hrl)).2)⟩, ?_, HTV.out.below.setCell (by show w.heap.size ≤ g; omega) _⟩
            · rw [far_block hgO, hb]
              simp [shobj]
            · rw [far_block hgR]
              exact HTV.out.res
          have T2 := T1.drew
          obtain ⟨s0, s1, s2, t0, t1, t2⟩ := T2.cell.cells
          obtain ⟨v0, v1, v2, _, _, _⟩ := Cells3.of T2.res
          have hln : (l.set r ⟨l[r].blk, x, l[r].txt⟩).length = n := by rw [List.length_set]; exact HN.out
          have HLN := Lib.hid hln
          simp only [hln] at s2
          clear hln hHeld T1
          have HFIN := Lib.hid (FIN.out room clock (l.set r ⟨l[r].blk, x, l[r].txt⟩) (some ⟨g, 0, none⟩) q1 n _ T2 HLN.out (Nat.le_succ _))
          clear T2
          go_wp2
          refine bodyPost_ret (v := .agg #[.int .i64 room, .int .i64 clock, .slice (some ⟨g, 0, none⟩) n q1]) ?_ rfl ?_
          · exact results_cellv rfl _ _ _ ⟨B0 + 1, 0, none⟩ _ rfl HFIN.out.1
          · exact HFIN.out.2
        exact AllReadyH.nil
      exact AllReadyH.nil
  · rcases Nat.eq_zero_or_pos n with hn0 | hn0
    · have hz : decide (0 < n) = false := decide_eq_false (by omega)
      clear hn0
      have T2 := HTV.out
      have HFIN := Lib.hid (FIN.out room clock l a1 q1 n _ T2 HN.out (Nat.le_succ _))
      clear T2
      go_wp2
      refine bodyPost_ret (v := .agg #[.int .i64 room, .int .i64 clock, .slice a1 n q1]) ?_ rfl ?_
      · exact results_cellv rfl _ _ _ ⟨B0 + 1, 0, none⟩ _ rfl HFIN.out.1
      · exact HFIN.out.2
    · have hz : decide (0 < n) = true := decide_eq_true hn0
      obtain ⟨g, rfl, hg1, hg2, hg3⟩ := HOV.out.at_ hn0
      have hgO : B0 + 2 ≠ g := by omega
      have hgR : B0 + 1 ≠ g := by omega
      obtain ⟨y, hy, hy1, hy2⟩ : ∃ y, which.tdiv 6 = y ∧ -9223372036854775808 ≤ y ∧ y ≤ 9223372036854775807 := by
        refine ⟨_, rfl, ?_⟩
        rcases Int.le_total 0 which with h | h
        · rw [Int.tdiv_eq_ediv_of_nonneg h]; omega
        · rw [show which = -(-which) by omega, Int.neg_tdiv, Int.tdiv_eq_ediv_of_nonneg (by omega)]; omega
      have hyw : IntKind.i64.wrap y = y := IntWalk.i64_in _ ⟨by omega, by omega⟩
      obtain ⟨r, hr, hpr⟩ := pick_nat y n hy1 hy2 hn0 (by omega) (n : Int) rfl
      have HPR := Lib.hid hpr
      have hrl : r < l.length := by rw [HN.out]; exact hr
      have hr0 : (0 : Int) ≤ (r : Int) := by omega
      have hrn : (r : Int) < (n : Int) := by omega
      obtain ⟨v, hv⟩ := HOV.out.cell (r * 3 ) (by omega)
      have hv' : V.drew.cell? ⟨g, r * 3 , none⟩ = some v := hv
      have hvf : V.drew.frozen? ⟨g, r * 3 , none⟩ = false := World.ownsRow.frozenAt HOV.out _
      clear hpr hv
      go_upto_region 13 with fail
      refine wp_region_held_drew (S := fun w' => w'.cell? ⟨B0 + 2, 2, none⟩ = some (.slice (some ⟨g, 0, none⟩) n q1)) (by kernel_rfl) x2 (fun hHeld => ?_)
      refine wpAnyH_take (i := 0) (v := .pointer (some ⟨B0 + 2, 2, none⟩)) rfl (by kernel_rfl) (by kernel_rfl) (by kernel_rfl) (fun _ _ _ h => h) (Or.inl ⟨by rfl, fun w hSw => by (try dsimp only at hSw); go_simp⟩) hHeld ?_
      try simp only [List.getElem_toArray, List.getElem_cons_succ, List.getElem_cons_zero, Act.put, List.setIfInBounds_toArray, List.set_cons_zero, List.set_cons_succ]
      refine wpAnyH_take (i := 1) (v := .slice (some ⟨g, 0, none⟩) n q1) rfl (by kernel_rfl) (by kernel_rfl) (by kernel_rfl) (fun _ _ _ h => h) (Or.inl ⟨by rfl, fun w hSw => by (try dsimp only at hSw); go_simp⟩) hHeld ?_
      try simp only [List.getElem_toArray, List.getElem_cons_succ, List.getElem_cons_zero, Act.put, List.setIfInBounds_toArray, List.set_cons_zero, List.set_cons_succ]
      refine wpAnyH_take (i := 2) (v := .int .i64 which) rfl (by kernel_rfl) (by kernel_rfl) (by kernel_rfl) (fun _ _ _ h => h) (Or.inl ⟨by rfl, fun w hSw => by (try dsimp only at hSw); go_simp⟩) hHeld ?_
      try simp only [List.getElem_toArray, List.getElem_cons_succ, List.getElem_cons_zero, Act.put, List.setIfInBounds_toArray, List.set_cons_zero, List.set_cons_succ]
      refine wpAnyH_take (i := 3) (v := .int .i64 y) rfl (by kernel_rfl) (by kernel_rfl) (by kernel_rfl) (fun _ _ _ h => h) (Or.inl ⟨by rfl, fun w hSw => by (go_simp; try rw [hy]; try exact hyw)⟩) hHeld ?_
      try simp only [List.getElem_toArray, List.getElem_cons_succ, List.getElem_cons_zero, Act.put, List.setIfInBounds_toArray, List.set_cons_zero, List.set_cons_succ]
      refine wpAnyH_take (i := 4) (v := .pointer (some ⟨B0 + 2, 2, none⟩)) rfl (by kernel_rfl) (by kernel_rfl) (by kernel_rfl) (fun _ _ _ h => h) (Or.inl ⟨by rfl, fun w hSw => by (try dsimp only at hSw); go_simp⟩) hHeld ?_
      try simp only [List.getElem_toArray, List.getElem_cons_succ, List.getElem_cons_zero, Act.put, List.setIfInBounds_toArray, List.set_cons_zero, List.set_cons_succ]
      refine wpAnyH_take (i := 5) (v := .slice (some ⟨g, 0, none⟩) n q1) rfl (by kernel_rfl) (by kernel_rfl) (by kernel_rfl) (fun _ _ _ h => h) (Or.inl ⟨by rfl, fun w hSw => by (try dsimp only at hSw); go_simp⟩) hHeld ?_
      try simp only [List.getElem_toArray, List.getElem_cons_succ, List.getElem_cons_zero, Act.put, List.setIfInBounds_toArray, List.set_cons_zero, List.set_cons_succ]
      refine wpAnyH_take (i := 6) (v := .int .i64 (n : Int)) rfl (by kernel_rfl) (by kernel_rfl) (by kernel_rfl) (fun _ _ _ h => h) (Or.inl ⟨by rfl, fun w hSw => by (try dsimp only at hSw); go_simp⟩) hHeld ?_
      try simp only [List.getElem_toArray, List.getElem_cons_succ, List.getElem_cons_zero, Act.put, List.setIfInBounds_toArray, List.set_cons_zero, List.set_cons_succ]
      refine wpAnyH_take (i := 8) (v := .int .i64 x) rfl (by kernel_rfl) (by kernel_rfl) (by kernel_rfl) (fun _ _ _ h => h) (Or.inl ⟨by rfl, fun w hSw => by (try dsimp only at hSw); go_simp⟩) hHeld ?_
      try simp only [List.getElem_toArray, List.getElem_cons_succ, List.getElem_cons_zero, Act.put, List.setIfInBounds_toArray, List.set_cons_zero, List.set_cons_succ]
      refine wpAnyH_ready (rs := [7]) (by kernel_rfl) (by simp) ?_
      refine AllReadyH.cons rfl (fun K hK => ?_) ?_
      · go_simp
        go_at_call 10
        refine (HPR.out _).mono ?_
        rintro e w9 ⟨rfl, rfl⟩
        refine hK.out _ _ ?_ (fun hHeld => ?_)
        · exact hHeld
        clear hK K
        try simp only [List.getElem_toArray, List.getElem_cons_succ, List.getElem_cons_zero, Act.put, List.setIfInBounds_toArray, List.set_cons_zero, List.set_cons_succ]
        refine wpAnyH_take (i := 9) (v := .pointer (some ⟨g, r * 3, none⟩)) rfl (by kernel_rfl) (by kernel_rfl) (by kernel_rfl) (fun _ _ _ h => h) (Or.inl ⟨by rfl, fun w hSw => by (try dsimp only at hSw); go_simp⟩) hHeld ?_
        try simp only [List.getElem_toArray, List.getElem_cons_succ, List.getElem_cons_zero, Act.put, List.setIfInBounds_toArray, List.set_cons_zero, List.set_cons_succ]
        refine wpAnyH_take (i := 10) (v := .pointer (some ⟨g, r * 3 , none⟩)) rfl (by kernel_rfl) (by kernel_rfl) (by kernel_rfl) (fun _ _ _ h => h) (Or.inl ⟨by rfl, fun w hSw => by (try dsimp only at hSw); go_simp⟩) hHeld ?_
        try simp only [List.getElem_toArray, List.getElem_cons_succ, List.getElem_cons_zero, Act.put, List.setIfInBounds_toArray, List.set_cons_zero, List.set_cons_succ]
        refine wpAnyH_ready (rs := [11]) (by kernel_rfl) (by simp) ?_
        refine AllReadyH.cons rfl (fun K hK => ?_) ?_
        · go_simp
          refine hK.out _ _ ?_ (fun hHeld => ?_)
          · exact (far_cell hgO).trans hHeld
          clear hK K
          try simp only [List.getElem_toArray, List.getElem_cons_succ, List.getElem_cons_zero, Act.put, List.setIfInBounds_toArray, List.set_cons_zero, List.set_cons_succ]
          refine wpAnyH_done (by kernel_rfl) ?_ _
          have T1 : TurnW w (B0 + 2) (B0 + 1) ⟨room, clock, l.set r ⟨x, l[r].st, l[r].txt⟩⟩ (some ⟨g, 0, none⟩) q1 (V.setCell ⟨g, r * 3 , none⟩ (.int .i64 x)) := by
            have hb := HTV.out.cell.blk
            refine ⟨⟨?_, OwnH.shw room clock (OwnH.bl HOV.out r hrl x) (Wf.set HWF.out r _ hx1 hx2)⟩, ?_, HTV.out.below.setCell (by show w.heap.size ≤ g; omega) _⟩
            · rw [far_block hgO, hb]
              simp [shobj]
            · rw [far_block hgR]
              exact HTV.out.res
          have T2 := T1.drew
          obtain ⟨s0, s1, s2, t0, t1, t2⟩ := T2.cell.cells
          obtain ⟨v0, v1, v2, _, _, _⟩ := Cells3.of T2.res
          have hln : (l.set r ⟨x, l[r].st, l[r].txt⟩).length = n := by rw [List.length_set]; exact HN.out
          have HLN := Lib.hid hln
          simp only [hln] at s2
          clear hln hHeld T1
          have HFIN := Lib.hid (FIN.out room clock (l.set r ⟨x, l[r].st, l[r].txt⟩) (some ⟨g, 0, none⟩) q1 n _ T2 HLN.out (Nat.le_succ _))
          clear T2
          go_wp2
          refine bodyPost_ret (v := .agg #[.int .i64 room, .int .i64 clock, .slice (some ⟨g, 0, none⟩) n q1]) ?_ rfl ?_
          · exact results_cellv rfl _ _ _ ⟨B0 + 1, 0, none⟩ _ rfl HFIN.out.1
          · exact HFIN.out.2
        exact AllReadyH.nil
      exact AllReadyH.nil
  · obtain ⟨V1, hV1⟩ : ∃ W, V.alloc (.cells #[.int .i64 9, .int .i64 x, .string ⟨#[]⟩] TH) = W := ⟨_, rfl⟩
    have zV := HTV.out.cell.lt
    have hbV : Below V.heap.size V V1 := by rw [← hV1]; exact (Below.refl _ _).alloc (Nat.le_refl _) _
    have sV : HSrc V1 (some ⟨V.heap.size, 0, none⟩) [⟨9, x, ⟨#[]⟩⟩] := by
      intro j y hj
      match j, hj with
      | 0, hj =>
        simp at hj
        subst hj
        exact ⟨_, _, rfl, by rw [← hV1]; simp, by rw [← hV1]; simp, by rw [← hV1]; simp⟩
    have zB : B0 + 3 ≤ V1.heap.size := by have := hbV.size; omega
    obtain ⟨a2, q2', w2, hr2, ho2, hg2⟩ := OwnH.app (ty := 23) (w := V1) (HOV.out.below hbV (Nat.le_refl _)) (some ⟨V.heap.size, 0, none⟩) 1 1 [⟨9, x, ⟨#[]⟩⟩] sV rfl (fun e => by cases e) (by omega) zB
    have bg : Below (B0 + 3) V1 w2 := (Below.refl _ _).grown hg2 (by omega) (fun q hq => HOV.out.block q hq)
    have hwf2 : Wf (l ++ [⟨9, x, ⟨#[]⟩⟩]) := by
      intro y hy
      rcases List.mem_append.1 hy with hy | hy
      · exact HWF.out y hy
      · simp at hy; subst hy; exact ⟨by show (-9223372036854775808 : Int) ≤ 9; omega, by show (9 : Int) ≤ 9223372036854775807; omega⟩
    have k5 : w2.heap[B0 + 2]? = some (.cells #[.int .i64 room, .int .i64 clock, .slice a1 l.length q1] TS (0, 0)) := (bg.block _ (by omega)).trans ((hbV.block _ zV).trans HTV.out.cell.blk)
    have r5 : w2.heap[B0 + 1]? = some (.cells #[.int .i64 0, .int .i64 0, .slice none 0 0] TS (0, 0)) := (bg.block _ (by omega)).trans ((hbV.block _ (by omega)).trans HTV.out.res)
    have T2 : TurnW w (B0 + 2) (B0 + 1) ⟨room, clock, l ++ [⟨9, x, ⟨#[]⟩⟩]⟩ a2 q2' (w2.setCell ⟨B0 + 2, 2, none⟩ (.slice a2 (n + 1) q2')) := by
      refine ⟨⟨?_, OwnH.shw room clock (ho2.set (by omega) _) hwf2⟩, ?_, ((HTV.out.below.trans (hbV.mono (by have := HTV.out.below.size; omega))).trans (bg.mono (by omega))).setCell (by show _ ≤ B0 + 2; omega) _⟩
      · rw [slot_block 2 k5]
        simp [shobj, HN.out]
      · rw [far_block (by omega)]
        exact r5
    obtain ⟨m0, m1, m2, j0, j1, j2⟩ := Cells3.of k5
    obtain ⟨s0, s1, s2, t0, t1, t2⟩ := T2.cell.cells
    obtain ⟨v0, v1, v2, _, _, _⟩ := Cells3.of T2.res
    have hln : (l ++ [⟨9, x, ⟨#[]⟩⟩] : List Hd).length = n + 1 := by rw [List.length_append, HN.out]; rfl
    have HLN := Lib.hid hln
    simp only [hln] at s2
    have c1 : V1.cell? ⟨B0 + 2, 2, none⟩ = some (.slice a1 n q1) := by rw [hbV.cell (p := ⟨B0 + 2, 2, none⟩) zV]; exact x2
    have HFIN := Lib.hid (FIN.out room clock (l ++ [⟨9, x, ⟨#[]⟩⟩]) a2 q2' (n + 1) _ T2 HLN.out (Nat.le_refl _))
    clear T2 hln sV zB zV hbV bg hwf2 k5 r5 ho2 hg2
    go_wp2_with (at_builtin; refine Kit.app_eq rfl (.tmp 60) (.tmp 63) 23 rfl rfl rfl hr2 ?_)
    refine bodyPost_ret (v := .agg #[.int .i64 room, .int .i64 clock, .slice a2 (n + 1) q2']) ?_ rfl ?_
    · exact results_cellv rfl _ _ _ ⟨B0 + 1, 0, none⟩ _ rfl HFIN.out.1
    · exact HFIN.out.2
  · have T2 := HTV.out
    have HFIN := Lib.hid (FIN.out room clock l a1 q1 n _ T2 HN.out (Nat.le_succ _))
    clear T2
    go_wp2
    refine bodyPost_ret (v := .agg #[.int .i64 room, .int .i64 clock, .slice a1 n q1]) ?_ rfl ?_
    · exact results_cellv rfl _ _ _ ⟨B0 + 1, 0, none⟩ _ rfl HFIN.out.1
    · exact HFIN.out.2
end Cache
end Go.Proofs.Ytpkhafijmbgcnaa
