/- The shelf behind a use of one (chapter 21). -/
import Derived.Test.YtpkhafijmbgcnaaCOrder2
import Derived.Deep.RegionHeld3
namespace Go.Proofs.Ytpkhafijmbgcnaa
namespace Cache
open Go.RowKit Go.Shelf
set_option linter.unusedVariables false

theorem sorted_eq {l l' : List Hd} (hr : Rise l) (hp : l'.Perm l) (hs : l'.Pairwise fun x y => x.blk ≤ y.blk) : l' = l := by
  refine sorted_one Hd.blk l' l hp ?_ hr
  have ha : l'.Pairwise fun x y => x.blk ≠ y.blk := (List.Perm.pairwise_iff (fun h => Ne.symm h) hp).2 (hr.imp fun h => by omega)
  exact (hs.and ha).imp fun h => by omega
/-- What the two boxes of 'used' hold. -/
structure UsedAt (w' : World) (X R : Nat) (room clock : Int) : Prop where
  x0 : w'.cell? ⟨X, 0, none⟩ = some (.int .i64 room)
  x1 : w'.cell? ⟨X, 1, none⟩ = some (.int .i64 clock)
  r0 : w'.cell? ⟨R, 0, none⟩ = some (.int .i64 0)
  r1 : w'.cell? ⟨R, 1, none⟩ = some (.int .i64 0)
  r2 : w'.cell? ⟨R, 2, none⟩ = some (.slice none 0 0)
  f0 : w'.frozen? ⟨R, 0, none⟩ = false
  f1 : w'.frozen? ⟨R, 1, none⟩ = false
  f2 : w'.frozen? ⟨R, 2, none⟩ = false
theorem UsedAt.below {w w' : World} {X R N : Nat} {room clock : Int} (h : UsedAt w X R room clock) (hb : Below N w w') (hX : X < N) (hR : R < N) : UsedAt w' X R room clock :=
  ⟨by rw [hb.cell (p := ⟨X, 0, none⟩) hX]; exact h.x0, by rw [hb.cell (p := ⟨X, 1, none⟩) hX]; exact h.x1, by rw [hb.cell (p := ⟨R, 0, none⟩) hR]; exact h.r0, by rw [hb.cell (p := ⟨R, 1, none⟩) hR]; exact h.r1, by rw [hb.cell (p := ⟨R, 2, none⟩) hR]; exact h.r2,
    by rw [hb.frozen (p := ⟨R, 0, none⟩) hR]; exact h.f0, by rw [hb.frozen (p := ⟨R, 1, none⟩) hR]; exact h.f1, by rw [hb.frozen (p := ⟨R, 2, none⟩) hR]; exact h.f2⟩
/-- All that a region of 'used' keeps, written out. -/
def UsedS (W : World) (X R : Nat) (room clock : Int) (w' : World) : Prop :=
  w'.cell? ⟨X, 0, none⟩ = some (.int .i64 room) ∧ w'.cell? ⟨X, 1, none⟩ = some (.int .i64 clock) ∧ w'.cell? ⟨R, 0, none⟩ = some (.int .i64 0) ∧ w'.cell? ⟨R, 1, none⟩ = some (.int .i64 0) ∧ w'.cell? ⟨R, 2, none⟩ = some (.slice none 0 0) ∧
    w'.frozen? ⟨R, 0, none⟩ = false ∧ w'.frozen? ⟨R, 1, none⟩ = false ∧ w'.frozen? ⟨R, 2, none⟩ = false ∧ RowKit.Hid (Below W.heap.size W w')
theorem UsedAt.all {W w' : World} {X R : Nat} {room clock : Int} (h : UsedAt W X R room clock) (hX : X < W.heap.size) (hR : R < W.heap.size) (hb : Below W.heap.size W w') : UsedS W X R room clock w' := by
  obtain ⟨h1, h2, h3, h4, h5, h6, h7, h8⟩ := h.below hb hX hR
  exact ⟨h1, h2, h3, h4, h5, h6, h7, h8, Lib.hid hb⟩

theorem grownSet (w : World) (r i : Nat) (u : Value) : w.grownBy (w.setCell ⟨r, i, none⟩ u) (some r) :=
  ⟨rfl, rfl, rfl, by simp, fun k hk hne => Below.heap_setCell _ _ _ k (fun e => hne (by rw [e]))⟩
theorem OwnH.set {w : World} {B r i : Nat} {a : Option Addr} {n c : Nat} {l : List Hd} (h : OwnH w B a n c l) (hr : r < B) (u : Value) : OwnH (w.setCell ⟨r, i, none⟩ u) B a n c l :=
  World.ownsRow.kept h (grownSet w r i u) (.inr fun e => by have := h.block r e; omega)
theorem set3_at {w : World} {R : Nat} {x y z u v t : Value} (h0 : w.cell? ⟨R, 0, none⟩ = some u) (h1 : w.cell? ⟨R, 1, none⟩ = some v) (h2 : w.cell? ⟨R, 2, none⟩ = some t) :
    (((w.setCell ⟨R, 0, none⟩ x).setCell ⟨R, 1, none⟩ y).setCell ⟨R, 2, none⟩ z).cell? ⟨R, 0, none⟩ = some x ∧ (((w.setCell ⟨R, 0, none⟩ x).setCell ⟨R, 1, none⟩ y).setCell ⟨R, 2, none⟩ z).cell? ⟨R, 1, none⟩ = some y ∧ (((w.setCell ⟨R, 0, none⟩ x).setCell ⟨R, 1, none⟩ y).setCell ⟨R, 2, none⟩ z).cell? ⟨R, 2, none⟩ = some z := by
  have g1 : (w.setCell ⟨R, 0, none⟩ x).cell? ⟨R, 1, none⟩ = some v := by rw [World.cell?_setCell_other _ _ _ _ (by intro e; injection e with _ e2 _; omega)]; exact h1
  have g2 : ((w.setCell ⟨R, 0, none⟩ x).setCell ⟨R, 1, none⟩ y).cell? ⟨R, 2, none⟩ = some t := by
    rw [World.cell?_setCell_other _ _ _ _ (by intro e; injection e with _ e2 _; omega), World.cell?_setCell_other _ _ _ _ (by intro e; injection e with _ e2 _; omega)]; exact h2
  refine ⟨?_, ?_, World.cell?_setCell_same _ _ _ g2⟩
  · rw [World.cell?_setCell_other _ _ _ _ (by intro e; injection e with _ e2 _; omega), World.cell?_setCell_other _ _ _ _ (by intro e; injection e with _ e2 _; omega)]; exact World.cell?_setCell_same _ _ _ h0
  · rw [World.cell?_setCell_other _ _ _ _ (by intro e; injection e with _ e2 _; omega)]; exact World.cell?_setCell_same _ _ _ g1
theorem Below.set3 {D R : Nat} {w w' : World} (h : Below D w w') (hR : D ≤ R) (x y z : Value) : Below D w (((w'.setCell ⟨R, 0, none⟩ x).setCell ⟨R, 1, none⟩ y).setCell ⟨R, 2, none⟩ z) :=
  ((h.setCell (p := ⟨R, 0, none⟩) hR x).setCell (p := ⟨R, 1, none⟩) hR y).setCell (p := ⟨R, 2, none⟩) hR z

set_option maxRecDepth 100000 in
set_option maxHeartbeats 8000000 in
theorem used_any (b nd B : Nat) (l : List Hd) (c : Sh) (a : Option Addr) (cap : Nat) (blk : Int) (txt : ByteArray) (w : World) (hd : DeskW w b nd l) (hnd : nd ≤ 1000) (hB : B ≤ b) (hBw : B ≤ w.heap.size) (hl : l.length ≤ 500) (hc0 : 0 ≤ c.clock) (hc1 : c.clock < MaxC) (hb0 : 0 ≤ blk) (hb1 : blk ≤ 9223372036854775807) :
    Calls Try.prog 28 #[.map (some b), sval c a cap, .int .i64 blk, .string txt] w fun e w' => ∃ a' n k, e = .returned (.agg #[.int .i64 c.room, .int .i64 (c.clock + 1), .slice a' n k]) ∧
      OwnH w' w.heap.size a' n k (put ⟨blk, c.clock + 1, txt⟩ l) ∧ Below B w w' ∧ (∀ k, k < w.heap.size → k ≠ b → w'.heap[k]? = w.heap[k]?) := by
  unfold MaxC at hc1
  obtain ⟨W0, hW0⟩ : ∃ W0, (w.alloc (.cells #[.int .i64 c.room, .int .i64 c.clock, .slice a c.held.length cap] TS)).alloc (.cells #[.int .i64 0, .int .i64 0, .slice none 0 0] TS) = W0 := ⟨_, rfl⟩
  have hblt := hd.lt
  have hs0 : W0.heap.size = w.heap.size + 2 := by rw [← hW0, size_alloc', size_alloc']
  have hbW0 : Below w.heap.size w W0 := by rw [← hW0]; exact ((Below.refl _ w).alloc (Nat.le_refl _) _).alloc (by rw [size_alloc']; omega) _
  have hg0 : W0.heap[w.heap.size]? = some (.cells #[.int .i64 c.room, .int .i64 c.clock, .slice a c.held.length cap] TS (0, 0)) := by
    rw [← hW0, Below.heap_alloc _ _ _ (by rw [size_alloc']; omega)]; exact World.alloc_heap_new _ _
  have hg1 : W0.heap[w.heap.size + 1]? = some (.cells #[.int .i64 0, .int .i64 0, .slice none 0 0] TS (0, 0)) := by
    rw [← hW0]
    have h := World.alloc_heap_new (w.alloc (.cells #[.int .i64 c.room, .int .i64 c.clock, .slice a c.held.length cap] TS)) (.cells #[.int .i64 0, .int .i64 0, .slice none 0 0] TS)
    rwa [size_alloc'] at h
  obtain ⟨W, hr1, hd1, ht1⟩ := (hd.below hbW0 (Nat.le_refl _)).store ⟨blk, c.clock + 1, txt⟩ (by show _ ≤ blk; omega) hb1 (by omega)
  have hgr := ht1.grown
  have hsW : w.heap.size + 2 ≤ W.heap.size := by have := hgr.size; omega
  have hk0 : W.heap[w.heap.size]? = W0.heap[w.heap.size]? := hgr.block _ (by omega) (fun e => by injection e with e; omega)
  have hk1 : W.heap[w.heap.size + 1]? = W0.heap[w.heap.size + 1]? := hgr.block _ (by omega) (fun e => by injection e with e; omega)
  have hU : UsedAt W w.heap.size (w.heap.size + 1) c.room c.clock := by
    rw [hg0] at hk0
    rw [hg1] at hk1
    refine ⟨?_, ?_, ?_, ?_, ?_, ?_, ?_, ?_⟩ <;> simp [World.cell?, World.frozen?, hk0, hk1]
  have hBW : Below B w W := (hbW0.mono hBw).trans (mapTurned_below ht1 hB (by omega))
  have HKB : RowKit.Hid (∀ k, k < w.heap.size → k ≠ b → W.heap[k]? = w.heap[k]?) := Lib.hid (fun k hk hne => (hgr.block k (by omega) (fun e => by injection e with e; exact hne e)).trans (hbW0.block k hk))
  have hx1 : W0.cell? ⟨w.heap.size, 1, none⟩ = some (.int .i64 c.clock) := by simp [World.cell?, hg0]
  have h0 := hU.all (by omega) (by omega) ((Below.refl W.heap.size W).drew)
  have all : ∀ w', Below W.heap.size W w' → UsedS W w.heap.size (w.heap.size + 1) c.room c.clock w' := fun w' h => hU.all (by omega) (by omega) h
  have h36 : ∀ w', RowKit.Hid (Below W.heap.size W w') → Calls Try.prog 36 #[] w' fun e w1 => e = .returned (.agg #[.func (.func 42) #[] #[]]) ∧ UsedS W w.heap.size (w.heap.size + 1) c.room c.clock w1 ∧ RowKit.Hid (Below w'.heap.size w' w1) := fun w' hb =>
    (byBlock_any w').mono fun e w1 ⟨he, h1⟩ => ⟨he, all _ (hb.out.trans (h1.mono hb.out.size)), Lib.hid h1⟩
  have h38 : ∀ w', RowKit.Hid (Below W.heap.size W w') → Calls Try.prog 38 #[.map (some b)] w' fun e w1 => ∃ Bs, e = .returned (.func (.func 44) #[] #[.pointer (some ⟨Bs, 0, none⟩)]) ∧ UsedS W w.heap.size (w.heap.size + 1) c.room c.clock w1 ∧ RowKit.Hid (Bs < w1.heap.size ∧ w1.cell? ⟨Bs, 0, none⟩ = some (.map (some b))) := fun w' hb =>
    (mvalues_any (some b) w').mono fun e w1 ⟨he, h1⟩ => ⟨_, he, all _ (by rw [h1]; exact hb.out.alloc hb.out.size _), Lib.hid (by rw [h1, size_alloc']; exact ⟨by omega, by simp⟩)⟩
  have h37 : ∀ w' Bs, RowKit.Hid (Below W.heap.size W w') → RowKit.Hid (Bs < w'.heap.size ∧ w'.cell? ⟨Bs, 0, none⟩ = some (.map (some b))) → Calls Try.prog 37 #[.func (.func 44) #[] #[.pointer (some ⟨Bs, 0, none⟩)]] w' fun e w1 => ∃ a1 n1 k1, e = .returned (.slice a1 n1 k1) ∧ UsedS W w.heap.size (w.heap.size + 1) c.room c.clock w1 ∧ RowKit.Hid (∃ l1 : List Hd, l1.Perm (put ⟨blk, c.clock + 1, txt⟩ l) ∧ l1.length = n1 ∧ HSrc w1 a1 l1) := fun w' Bs hb hbs => by
    have hpl : (put ⟨blk, c.clock + 1, txt⟩ l).length ≤ 1000 := by
      obtain ⟨D, _, hD⟩ := hd
      have := put_len l hD.rise ⟨blk, c.clock + 1, txt⟩
      split at this <;> omega
    have hq := mvalues_seq 2 w'.heap.size Bs b (nd + 1) (by omega) (put ⟨blk, c.clock + 1, txt⟩ l) w' (hd1.below hb.out (Nat.le_refl _)) (Nat.le_refl _) hbs.out.1 hbs.out.2
    exact (collect_any _ _ _ _ hpl w' (enters_of Try.func44 (by kernel_rfl) rfl) hq).mono fun e w1 ⟨a1, n1, k1, l1, he, p1, p2, p3⟩ =>
      ⟨a1, n1, k1, he, all _ (hb.out.trans (p3.mono hb.out.size)), Lib.hid ⟨l1, p1, p2.len, p2.src⟩⟩
  have h26 : ∀ w' a1 n1 k1, RowKit.Hid (Below W.heap.size W w') → RowKit.Hid (∃ l1 : List Hd, l1.Perm (put ⟨blk, c.clock + 1, txt⟩ l) ∧ l1.length = n1 ∧ HSrc w' a1 l1) → Calls Try.prog 26 #[.agg #[.func (.func 42) #[] #[]], .slice a1 n1 k1] w' fun e w2 => ∃ a2 n2 k2, e = .returned (.slice a2 n2 k2) ∧ UsedS W w.heap.size (w.heap.size + 1) c.room c.clock w2 ∧ RowKit.Hid (OwnH w2 W.heap.size a2 n2 k2 (put ⟨blk, c.clock + 1, txt⟩ l)) := fun w' a1 n1 k1 hb hs => by
    obtain ⟨D, _, hD⟩ := hd
    obtain ⟨l1, q1, q2, q3⟩ := hs.out
    have hpl : (put ⟨blk, c.clock + 1, txt⟩ l).length ≤ 1000 := by
      have := put_len l hD.rise ⟨blk, c.clock + 1, txt⟩
      split at this <;> omega
    exact (sorterSort_any 42 _ keyBlock a1 n1 k1 l1 q2 (by rw [← q2, q1.length_eq]; exact hpl) w' q3).mono fun e w2 ⟨a2, n2, k2, l2, he, p1, p2, p3, p4⟩ =>
      ⟨a2, n2, k2, he, all _ (hb.out.trans (p4.mono hb.out.size)), Lib.hid (by rw [← sorted_eq (hD.rise.put _) (p1.trans q1) p2]; exact p3.base hb.out.size)⟩
  unfold UsedS at h0 h36 h38 h37 h26
  obtain ⟨i0, i1, i2, i3, i4, i5, i6, i7, i8⟩ := h0
  have H36 := Lib.hid h36
  have H38 := Lib.hid h38
  have H37 := Lib.hid h37
  have H26 := Lib.hid h26
  have HBW := Lib.hid hBW
  have HW0 := Lib.hid hW0
  have hwr : IntKind.i64.wrap (c.clock + 1) = c.clock + 1 := IntWalk.i64_in _ ⟨by omega, by omega⟩
  have HWR := Lib.hid hwr
  have lX : w.heap.size < W.heap.size := by omega
  have lR : w.heap.size + 1 < W.heap.size := by omega
  clear h36 h38 h37 h26 hBW all hwr hd hd1 hbW0 hg0 hg1 hk0 hk1 hgr ht1 hU hl hnd
  unfold sval
  unfold hval at hr1
  go_enter Try.func28, Try.ntmps28
  go_wp2_with (at_mapUpdate; refine store_eq rfl _ _ _ 61 rfl rfl rfl rfl hr1 ?_)
  have hwr := HWR.out
  clear hx1 hW0 hr1
  go_region_held3 (fun w' => w'.cell? ⟨w.heap.size, 0, none⟩ = some (.int .i64 c.room) ∧ w'.cell? ⟨w.heap.size, 1, none⟩ = some (.int .i64 c.clock)) (first | assumption | (refine ⟨?_, ?_⟩ <;> assumption) | (refine ⟨?_, ?_⟩ <;> (rw [World.cell?_setCell_other _ _ _ _ (by simp), World.cell?_setCell_other _ _ _ _ (by simp), World.cell?_setCell_other _ _ _ _ (by simp)]; assumption)) | go_keep)
    (first
      | (go_at_call 36; refine (H36.out _ (by assumption)).mono ?_; rintro e w36 ⟨rfl, ⟨p0, p1, p2, p3, p4, p5, p6, p7, p8⟩, hb36⟩)
      | (go_at_call 38; refine (H38.out _ (by assumption)).mono ?_; rintro e w38 ⟨Bs, rfl, ⟨q0, q1, q2, q3, q4, q5, q6, q7, q8⟩, h38⟩)
      | (go_at_call 37; refine (H37.out _ _ (by assumption) ?_).mono ?_; (first | exact h38 | exact Lib.hid ⟨Nat.lt_of_lt_of_le h38.out.1 hb36.out.size, (hb36.out.cell (p := ⟨_, 0, none⟩) h38.out.1).trans h38.out.2⟩); rintro e w37 ⟨a1, n1, k1, rfl, ⟨r0, r1, r2, r3, r4, r5, r6, r7, r8⟩, h37⟩)
      | (go_at_call 26; refine (H26.out _ _ _ _ (by assumption) ?_).mono ?_; (first | exact h37 | exact Lib.hid (h37.out.elim fun l1 h => ⟨l1, h.1, h.2.1, h.2.2.below hb36.out rfl⟩)); rintro e w26 ⟨a2, n2, k2, rfl, ⟨s0, s1, s2, s3, s4, s5, s6, s7, s8⟩, h26⟩))
  clear hwr
  go_wp2
  obtain ⟨z0, z1, z2⟩ := set3_at (x := .int .i64 c.room) (y := .int .i64 (c.clock + 1)) (z := .slice a2 n2 k2) s2 s3 s4
  refine bodyPost_ret (v := .agg #[.int .i64 c.room, .int .i64 (c.clock + 1), .slice a2 n2 k2]) ?_ rfl ?_
  · exact results_cellv rfl _ _ _ ⟨w.heap.size + 1, 0, none⟩ _ rfl (load_sh _ _ _ _ _ z0 z1 z2)
  · exact ⟨a2, n2, k2, rfl, (((h26.out.set lR _).set lR _).set lR _).base (by omega), Below.set3 (HBW.out.trans (s8.out.mono (by omega))) (by omega) _ _ _, fun k hk hne => ((Below.set3 (s8.out.mono (Nat.le_of_lt lX)) (by omega) _ _ _).block k hk).trans (HKB.out k hk hne)⟩
end Cache
end Go.Proofs.Ytpkhafijmbgcnaa
