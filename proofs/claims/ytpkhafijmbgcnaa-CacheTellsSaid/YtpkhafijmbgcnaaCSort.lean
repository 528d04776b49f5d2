/- The sorter: what it compares by, and what it sorts (chapter 21). -/
import Derived.Test.YtpkhafijmbgcnaaCSeq2
import Derived.Test.YtpkhafijmbgcnaaShelf
import Derived.Shelf.SlSortCmp.WholeK
import Derived.Shelf.SlSortCmp.QuietGrown
import Derived.Shelf.SlicesG.Cmp
namespace Go.Proofs.Ytpkhafijmbgcnaa
namespace Cache
open Go.RowKit Go.Shelf Go.Lib Go.Sort
set_option linter.unusedVariables false

theorem compare_any (x y : Int) (w : World) : Calls Try.prog 35 #[.int .i64 x, .int .i64 y] w fun e w' => e = .returned (.int .i64 (Lib.compareInt x y)) ∧ w' = w := AnyG.cmp_Compare_int Try.cmpInt x y w
/-- A function that tells by what one stands. -/
structure Key (p : Nat) (key : Hd → Int) : Prop where
  enters : ∀ args w, (callFunc p args).run Try.prog w = .ok (.enter p args) w
  calls : ∀ x w, Calls Try.prog p #[hval x] w fun e w' => e = .returned (.int .i64 (key x)) ∧ w' = w.alloc (hobj x)
theorem keyUse : Key 31 (fun x => wrap64 (-x.st)) := ⟨enters_of Try.func31 (by kernel_rfl) rfl, byUse1_any⟩
theorem keyBlock : Key 42 (fun x => x.blk) := ⟨enters_of Try.func42 (by kernel_rfl) rfl, byBlock1_any⟩

set_option maxRecDepth 100000 in
set_option maxHeartbeats 2000000 in
theorem cmp_any (p : Nat) (key : Hd → Int) (K : Key p key) (Bs : Nat) (x y : Hd) (w : World) (hc : w.cell? ⟨Bs, 0, none⟩ = some (.func (.func p) #[] #[])) :
    Calls Try.prog 34 #[hval x, hval y, .pointer (some ⟨Bs, 0, none⟩)] w fun e w' => e = .returned (.int .i64 (Lib.compareInt (key x) (key y))) ∧ ∃ q os', w' = grow (w.drewN q) os' := by
  have eg := K.enters
  have hbl : Bs < w.heap.size := block_lt_of_cell hc
  obtain ⟨W, hW⟩ : ∃ W, (w.alloc (hobj x)).alloc (hobj y) = W := ⟨_, rfl⟩
  have hx : HBox W w.heap.size x := by rw [← hW]; exact (HBox.new w x).alloc _
  have hy : HBox W (w.heap.size + 1) y := by rw [← hW]; have h := HBox.new (w.alloc (hobj x)) y; rw [size_alloc'] at h; exact h
  have hcW : W.cell? ⟨Bs, 0, none⟩ = some (.func (.func p) #[] #[]) := by
    rw [← hW, (((Below.refl w.heap.size w).alloc (Nat.le_refl _) (hobj x)).alloc (by rw [size_alloc']; omega) (hobj y)).cell (p := ⟨Bs, 0, none⟩) hbl]; exact hc
  have hsz : W.heap.size = w.heap.size + 2 := by rw [← hW, size_alloc', size_alloc']
  have c0 : ∀ n os, (grow (W.drewN n) os).cell? ⟨Bs, 0, none⟩ = some (.func (.func p) #[] #[]) := cell_grown (by rw [hsz]; show Bs < _; omega) hcW
  obtain ⟨x0, x1, x2⟩ := hx.at_
  obtain ⟨y0, y1, y2⟩ := hy.at_
  have cx0 := cell_grown (w := W) (a := ⟨w.heap.size, 0, none⟩) (by rw [hsz]; show w.heap.size < _; omega) x0
  have cx1 := cell_grown (w := W) (a := ⟨w.heap.size, 1, none⟩) (by rw [hsz]; show w.heap.size < _; omega) x1
  have cx2 := cell_grown (w := W) (a := ⟨w.heap.size, 2, none⟩) (by rw [hsz]; show w.heap.size < _; omega) x2
  have cy0 := cell_grown (w := W) (a := ⟨w.heap.size + 1, 0, none⟩) (by rw [hsz]; show w.heap.size + 1 < _; omega) y0
  have cy1 := cell_grown (w := W) (a := ⟨w.heap.size + 1, 1, none⟩) (by rw [hsz]; show w.heap.size + 1 < _; omega) y1
  have cy2 := cell_grown (w := W) (a := ⟨w.heap.size + 1, 2, none⟩) (by rw [hsz]; show w.heap.size + 1 < _; omega) y2
  have kc : ∀ (z : Hd) n os, Calls Try.prog p #[hval z] (grow (W.drewN n) os) fun e w' => e = .returned (.int .i64 (key z)) ∧ ∃ q os', w' = grow ((grow (W.drewN n) os).drewN q) os' := fun z n os =>
    (K.calls z _).mono fun e w' ⟨he, hw⟩ => ⟨he, 0, #[hobj z], by rw [hw, alloc_eq_grow]; rfl⟩
  have kx := kc x
  have ky := kc y
  have kk : ∀ n os, Calls Try.prog 35 #[.int .i64 (key x), .int .i64 (key y)] (grow (W.drewN n) os) fun e w' => e = .returned (.int .i64 (Lib.compareInt (key x) (key y))) ∧ ∃ q os', w' = grow ((grow (W.drewN n) os).drewN q) os' := fun n os =>
    (compare_any _ _ _).mono fun e w' ⟨he, hw⟩ => ⟨he, 0, #[], by rw [hw, grow_empty]; rfl⟩
  obtain ⟨r, hr⟩ : ∃ r, Lib.compareInt (key x) (key y) = r := ⟨_, rfl⟩
  rw [hr] at kk ⊢
  have HW := Lib.hid hW
  have KX := Lib.hid kx
  have KY := Lib.hid ky
  have KK := Lib.hid kk
  clear hW kx ky kk kc hr x0 x1 x2 y0 y1 y2 hx hy hcW hc K hsz
  unfold hval at *
  go_enter Try.func34, Try.ntmps34
  go_wp2_with fail
  rw [show (w.alloc (.cells #[.int .i64 x.blk, .int .i64 x.st, .string x.txt] TH)).alloc (.cells #[.int .i64 y.blk, .int .i64 y.st, .string y.txt] TH) = W from HW.out]
  have mixed : Try.prog.follows .mixedOrders = true := by kernel_rfl
  go_quiet_grown (first | (go_at_call 35; refine Calls.grown_of (KK.out _ _)) | (go_at_fn p; first | (refine Calls.grown_of (KX.out _ _)) | (refine Calls.grown_of (KY.out _ _))))
  go_wp2
  go_ret
  refine ⟨rfl, nq, #[hobj x, hobj y] ++ osq, ?_⟩
  rw [← HW.out, alloc_eq_grow, alloc_eq_grow, grow_grow]
  show grow (grow (w.drewN nq) _) osq = _
  rw [grow_grow]
  rfl
end Cache
end Go.Proofs.Ytpkhafijmbgcnaa
