/- New and Take (chapter 21). -/
import Derived.Test.YtpkhafijmbgcnaaCUsed
namespace Go.Proofs.Ytpkhafijmbgcnaa
namespace Cache
open Go.RowKit Go.Shelf
set_option linter.unusedVariables false

theorem results_ct {fn : Func} {p u : Tmp} {ty : TypeId} (h : fn.results = #[.cell p ty, .tmp u]) (tmps : Array Value) (P : Program) (w : World) (a : Addr) (v : Value) (hp : tmps.getD p undef = .pointer (some a)) (hl : (loadVar ty a).run P w = .ok v w) :
    (results fn tmps).run P w = .ok (.tuple #[v, tmps.getD u undef]) w := by
  rw [results_cell_tmp h, hp]
  simp [asAddr, hl, Result.andThen]
theorem results_tct {fn : Func} {t p u : Tmp} {ty : TypeId} (h : fn.results = #[.tmp t, .cell p ty, .tmp u]) (tmps : Array Value) (P : Program) (w : World) (a : Addr) (v : Value) (hp : tmps.getD p undef = .pointer (some a)) (hl : (loadVar ty a).run P w = .ok v w) :
    (results fn tmps).run P w = .ok (.tuple #[tmps.getD t undef, v, tmps.getD u undef]) w := by
  have hp' : tmps[p]?.getD undef = .pointer (some a) := by simpa using hp
  simp [results, h, hp', asAddr, hl, Result.andThen]
/-- A shelf's value, as it lies in memory. -/
structure ShW (w : World) (c : Sh) (a : Option Addr) (k : Nat) : Prop where
  src : HSrc w a c.held
  nil : a = none → c.held.length = 0 ∧ k = 0
  wf : Wf c.held
theorem ShW.below {w w' : World} {c : Sh} {a : Option Addr} {k B : Nat} (h : ShW w c a k) (hb : Below B w w') (hB : B = w.heap.size) : ShW w' c a k := ⟨h.src.below hb hB, h.nil, h.wf⟩
theorem ShW.zero (w : World) : ShW w zero none 0 := ⟨HSrc.nil _ _, fun _ => ⟨rfl, rfl⟩, fun h hh => by cases hh⟩
noncomputable def newS (room : Int) : Sh := if right ⟨room, 0, []⟩ = true then ⟨room, 0, []⟩ else zero
noncomputable def newE (room : Int) : Int := if right ⟨room, 0, []⟩ = true then 0 else 1

set_option maxRecDepth 100000 in
set_option maxHeartbeats 1000000 in
theorem new_any (room : Int) (w : World) :
    Calls Try.prog 11 #[.int .i64 room] w fun e w' => e = .returned (.tuple #[sval (newS room) none 0, .int .i64 (newE room)]) ∧ Below w.heap.size w w' := by
  have H := Lib.hid (fun w' => right_any ⟨room, 0, []⟩ none 0 w' (by unfold maxLen; simp) (HSrc.nil _ _))
  unfold sval at H
  go_enter Try.func11, Try.ntmps11
  go_wp2_with fail
  refine (H.out _).mono ?_
  rintro e w1 ⟨rfl, hb1⟩
  have hz := hb1.size
  rw [size_alloc', size_alloc'] at hz
  have lR : w.heap.size < w1.heap.size := by omega
  have r0 : w1.cell? ⟨w.heap.size, 0, none⟩ = some (.int .i64 0) := by rw [hb1.cell (p := ⟨w.heap.size, 0, none⟩) (by rw [size_alloc', size_alloc']; show w.heap.size < _; omega)]; simp
  have r1 : w1.cell? ⟨w.heap.size, 1, none⟩ = some (.int .i64 0) := by rw [hb1.cell (p := ⟨w.heap.size, 1, none⟩) (by rw [size_alloc', size_alloc']; show w.heap.size < _; omega)]; simp
  have r2 : w1.cell? ⟨w.heap.size, 2, none⟩ = some (.slice none 0 0) := by rw [hb1.cell (p := ⟨w.heap.size, 2, none⟩) (by rw [size_alloc', size_alloc']; show w.heap.size < _; omega)]; simp
  have f0 : w1.frozen? ⟨w.heap.size, 0, none⟩ = false := by rw [hb1.frozen (p := ⟨w.heap.size, 0, none⟩) (by rw [size_alloc', size_alloc']; show w.heap.size < _; omega)]; simp
  have f1 : w1.frozen? ⟨w.heap.size, 1, none⟩ = false := by rw [hb1.frozen (p := ⟨w.heap.size, 1, none⟩) (by rw [size_alloc', size_alloc']; show w.heap.size < _; omega)]; simp
  have f2 : w1.frozen? ⟨w.heap.size, 2, none⟩ = false := by rw [hb1.frozen (p := ⟨w.heap.size, 2, none⟩) (by rw [size_alloc', size_alloc']; show w.heap.size < _; omega)]; simp
  have x0 : w1.cell? ⟨w.heap.size + 1, 0, none⟩ = some (.int .i64 room) := by rw [hb1.cell (p := ⟨w.heap.size + 1, 0, none⟩) (by rw [size_alloc', size_alloc']; show w.heap.size + 1 < _; omega)]; simp
  have x1 : w1.cell? ⟨w.heap.size + 1, 1, none⟩ = some (.int .i64 0) := by rw [hb1.cell (p := ⟨w.heap.size + 1, 1, none⟩) (by rw [size_alloc', size_alloc']; show w.heap.size + 1 < _; omega)]; simp
  have x2 : w1.cell? ⟨w.heap.size + 1, 2, none⟩ = some (.slice none 0 0) := by rw [hb1.cell (p := ⟨w.heap.size + 1, 2, none⟩) (by rw [size_alloc', size_alloc']; show w.heap.size + 1 < _; omega)]; simp
  have HB := Lib.hid (((Below.refl w.heap.size w).alloc (Nat.le_refl _) (.cells #[.int .i64 0, .int .i64 0, .slice none 0 0] TS)).alloc (by rw [size_alloc']; omega) (.cells #[.int .i64 room, .int .i64 0, .slice none 0 0] TS) |>.trans (hb1.mono (by rw [size_alloc', size_alloc']; omega)))
  clear hb1 hz
  by_cases hr : right ⟨room, 0, []⟩ = true
  · have E1 := Lib.hid (show newS room = ⟨room, 0, []⟩ by unfold newS; rw [if_pos hr])
    have E2 := Lib.hid (show newE room = 0 by unfold newE; rw [if_pos hr])
    rw [hr]
    clear hr
    go_wp2
    obtain ⟨z0, z1, z2⟩ := set3_at (x := .int .i64 room) (y := .int .i64 0) (z := .slice none 0 0) r0 r1 r2
    refine bodyPost_ret (v := .tuple #[.agg #[.int .i64 room, .int .i64 0, .slice none 0 0], .int .i64 0]) ?_ rfl ?_
    · exact results_ct (p := 2) (u := 3) (ty := TS) rfl _ _ _ ⟨w.heap.size, 0, none⟩ _ (by rfl) (load_sh _ _ _ _ _ z0 z1 z2)
    · exact ⟨by rw [E1.out, E2.out]; rfl, Below.set3 HB.out (Nat.le_refl _) _ _ _⟩
  · have E1 := Lib.hid (show newS room = zero by unfold newS; rw [if_neg hr])
    have E2 := Lib.hid (show newE room = 1 by unfold newE; rw [if_neg hr])
    have hrf : right ⟨room, 0, []⟩ = false := by simpa using hr
    rw [hrf]
    clear hr hrf
    go_wp2
    obtain ⟨z0, z1, z2⟩ := set3_at (x := .int .i64 0) (y := .int .i64 0) (z := .slice none 0 0) r0 r1 r2
    refine bodyPost_ret (v := .tuple #[.agg #[.int .i64 0, .int .i64 0, .slice none 0 0], .int .i64 1]) ?_ rfl ?_
    · exact results_ct (p := 2) (u := 3) (ty := TS) rfl _ _ _ ⟨w.heap.size, 0, none⟩ _ (by rfl) (load_sh _ _ _ _ _ z0 z1 z2)
    · exact ⟨by rw [E1.out, E2.out]; rfl, Below.set3 HB.out (Nat.le_refl _) _ _ _⟩

/-! ### Take -/
/-- A result's cell that holds nothing yet. -/
structure Rz (w : World) (R : Nat) : Prop where
  r0 : w.cell? ⟨R, 0, none⟩ = some (.int .i64 0)
  r1 : w.cell? ⟨R, 1, none⟩ = some (.int .i64 0)
  r2 : w.cell? ⟨R, 2, none⟩ = some (.slice none 0 0)
  f0 : w.frozen? ⟨R, 0, none⟩ = false
  f1 : w.frozen? ⟨R, 1, none⟩ = false
  f2 : w.frozen? ⟨R, 2, none⟩ = false
theorem Rz.of {w : World} {R : Nat} (h : w.heap[R]? = some (.cells #[.int .i64 0, .int .i64 0, .slice none 0 0] TS (0, 0))) : Rz w R := by
  refine ⟨?_, ?_, ?_, ?_, ?_, ?_⟩ <;> simp [World.cell?, World.frozen?, h]
structure Bx (w : World) (X : Nat) (room clock : Int) (a : Option Addr) (n cap : Nat) : Prop where
  x0 : w.cell? ⟨X, 0, none⟩ = some (.int .i64 room)
  x1 : w.cell? ⟨X, 1, none⟩ = some (.int .i64 clock)
  x2 : w.cell? ⟨X, 2, none⟩ = some (.slice a n cap)
theorem Bx.of {w : World} {X : Nat} {room clock : Int} {a : Option Addr} {n cap : Nat} (h : w.heap[X]? = some (.cells #[.int .i64 room, .int .i64 clock, .slice a n cap] TS (0, 0))) : Bx w X room clock a n cap := by
  refine ⟨?_, ?_, ?_⟩ <;> simp [World.cell?, h]
theorem OwnH.nil {w : World} {B : Nat} {a : Option Addr} {n c : Nat} {l : List Hd} (h : OwnH w B a n c l) (ha : a = none) : n = 0 ∧ c = 0 := by
  subst ha
  rcases h.2 with ⟨h1, h2⟩ | ⟨g, cap, cur, h1, _⟩
  · injection h1 with _ _ h3
    exact ⟨h2, h3⟩
  · injection h1 with h1; cases h1
theorem Wf.put {l : List Hd} (h : Wf l) (hr : Rise l) (x : Hd) (h0 : -9223372036854775808 ≤ x.blk) (h1 : x.blk ≤ 9223372036854775807) : Wf (put x l) := by
  intro y hy
  rcases (mem_put x l hr y).1 hy with rfl | ⟨hy, _⟩
  · exact ⟨h0, h1⟩
  · exact h y hy
theorem cellAl {w : World} {p : Addr} {v : Value} (h : w.cell? p = some v) (o : Obj) : (w.alloc o).cell? p = some v := by rw [World.cell?_alloc_some _ _ _ (by rw [h]; rfl)]; exact h
theorem set3_far {w : World} {R k i : Nat} {x y z : Value} (h : k ≠ R) : (((w.setCell ⟨R, 0, none⟩ x).setCell ⟨R, 1, none⟩ y).setCell ⟨R, 2, none⟩ z).cell? ⟨k, i, none⟩ = w.cell? ⟨k, i, none⟩ := by
  rw [World.cell?_setCell_other _ _ _ _ (by intro e; injection e with e _; exact h e.symm), World.cell?_setCell_other _ _ _ _ (by intro e; injection e with e _; exact h e.symm), World.cell?_setCell_other _ _ _ _ (by intro e; injection e with e _; exact h e.symm)]
theorem Rz.kept {w w' : World} {R : Nat} (h : Rz w R) (hk : w'.heap[R]? = w.heap[R]?) : Rz w' R := by
  have hc : ∀ i, w'.cell? ⟨R, i, none⟩ = w.cell? ⟨R, i, none⟩ := fun i => World.cell?_of_block hk
  have hf : ∀ i, w'.frozen? ⟨R, i, none⟩ = w.frozen? ⟨R, i, none⟩ := fun i => World.frozen?_of_block hk
  exact ⟨by rw [hc]; exact h.r0, by rw [hc]; exact h.r1, by rw [hc]; exact h.r2, by rw [hf]; exact h.f0, by rw [hf]; exact h.f1, by rw [hf]; exact h.f2⟩
/-- 'used' as a region of Take's or Keep's meets it: two boxes, the result's cell and one more block are as they were. -/
theorem used_kept (W : World) (b nd : Nat) (l : List Hd) (c : Sh) (a : Option Addr) (cap : Nat) (blk : Int) (txt : ByteArray) (X R B : Nat) (hd : DeskW W b nd l) (hnd : nd ≤ 1000) (hl : l.length ≤ 500) (hc0 : 0 ≤ c.clock) (hc1 : c.clock < MaxC) (hb0 : 0 ≤ blk) (hb1 : blk ≤ 9223372036854775807)
    (hX : X < B) (hR : R < B) (hB : B ≤ b) (hBx : Bx W X c.room c.clock a c.held.length cap) (hRz : Rz W R) (w' : World) (hb : RowKit.Hid (Below W.heap.size W w')) :
    Calls Try.prog 28 #[.map (some b), .agg #[.int .i64 c.room, .int .i64 c.clock, .slice a c.held.length cap], .int .i64 blk, .string txt] w' fun e w1 => ∃ a' n k, e = .returned (.agg #[.int .i64 c.room, .int .i64 (c.clock + 1), .slice a' n k]) ∧
      RowKit.Hid (OwnH w1 W.heap.size a' n k (put ⟨blk, c.clock + 1, txt⟩ l)) ∧ RowKit.Hid (Below B W w1) ∧ RowKit.Hid (∀ k, k < W.heap.size → k ≠ b → w1.heap[k]? = W.heap[k]?) ∧ RowKit.Hid (Rz w1 R) ∧ RowKit.Hid (Bx w1 X c.room c.clock a c.held.length cap) := by
  have hlt := hd.lt
  refine (used_any b nd B l c a cap blk txt w' (hd.below hb.out (Nat.le_refl _)) hnd hB (by have := hb.out.size; omega) hl hc0 hc1 hb0 hb1).mono ?_
  rintro e w1 ⟨a', n, k, he, ho, hbe, hk⟩
  have hbB : Below B W w1 := (hb.out.mono (by omega)).trans hbe
  refine ⟨a', n, k, he, Lib.hid (ho.base hb.out.size), Lib.hid hbB, Lib.hid (fun j hj hne => (hk j (by have := hb.out.size; omega) hne).trans (hb.out.block j hj)), Lib.hid (hRz.kept (hbB.block R hR)), Lib.hid ?_⟩
  have hc : ∀ i, w1.cell? ⟨X, i, none⟩ = W.cell? ⟨X, i, none⟩ := fun i => World.cell?_of_block (hbB.block X hX)
  exact ⟨by rw [hc]; exact hBx.x0, by rw [hc]; exact hBx.x1, by rw [hc]; exact hBx.x2⟩

set_option maxRecDepth 100000 in
set_option maxHeartbeats 4000000 in
theorem take_any (c : Sh) (a : Option Addr) (cap : Nat) (blk : Int) (w : World) (hm : c.held.length ≤ 1000000) (hs : ShW w c a cap) (hb0 : -9223372036854775808 ≤ blk) (hb1 : blk ≤ 9223372036854775807) :
    Calls Try.prog 21 #[sval c a cap, .int .i64 blk] w fun e w' => ∃ a' k, e = .returned (.tuple #[.string (take c blk).1, sval (take c blk).2.1 a' k, .int .i64 (take c blk).2.2]) ∧ ShW w' (take c blk).2.1 a' k ∧ Below w.heap.size w w' := by
  obtain ⟨W0, hW0⟩ : ∃ W0, (w.alloc (.cells #[.int .i64 c.room, .int .i64 c.clock, .slice a c.held.length cap] TS)).alloc (.cells #[.int .i64 0, .int .i64 0, .slice none 0 0] TS) = W0 := ⟨_, rfl⟩
  have hs0 : W0.heap.size = w.heap.size + 2 := by rw [← hW0, size_alloc', size_alloc']
  have hbW0 : Below w.heap.size w W0 := by rw [← hW0]; exact ((Below.refl _ w).alloc (Nat.le_refl _) _).alloc (by rw [size_alloc']; omega) _
  have hg0 : W0.heap[w.heap.size]? = some (.cells #[.int .i64 c.room, .int .i64 c.clock, .slice a c.held.length cap] TS (0, 0)) := by
    rw [← hW0, Below.heap_alloc _ _ _ (by rw [size_alloc']; omega)]; exact World.alloc_heap_new _ _
  have hg1 : W0.heap[w.heap.size + 1]? = some (.cells #[.int .i64 0, .int .i64 0, .slice none 0 0] TS (0, 0)) := by
    rw [← hW0]
    have h := World.alloc_heap_new (w.alloc (.cells #[.int .i64 c.room, .int .i64 c.clock, .slice a c.held.length cap] TS)) (.cells #[.int .i64 0, .int .i64 0, .slice none 0 0] TS)
    rwa [size_alloc'] at h
  obtain ⟨x0, x1, x2⟩ := Bx.of hg0
  have HR := Lib.hid (right_any c a cap W0 (by unfold maxLen; omega) (hs.src.below hbW0 rfl))
  have HG0 := Lib.hid hg0
  have HG1 := Lib.hid hg1
  have HB0 := Lib.hid hbW0
  have HS := Lib.hid hs
  have HS0 := Lib.hid hs0
  clear hg0 hg1 hbW0 hs hs0
  unfold sval at HR
  rw [show sval c a cap = .agg #[.int .i64 c.room, .int .i64 c.clock, .slice a c.held.length cap] from rfl]
  go_enter Try.func21, Try.ntmps21
  go_wp2_with fail
  refine HR.out.mono ?_
  rintro e W ⟨rfl, hbW⟩
  have hk0 : W.heap[w.heap.size]? = some (.cells #[.int .i64 c.room, .int .i64 c.clock, .slice a c.held.length cap] TS (0, 0)) := (hbW.block _ (by rw [HS0.out]; omega)).trans HG0.out
  have hk1 : W.heap[w.heap.size + 1]? = some (.cells #[.int .i64 0, .int .i64 0, .slice none 0 0] TS (0, 0)) := (hbW.block _ (by rw [HS0.out]; omega)).trans HG1.out
  have hsW : w.heap.size + 2 ≤ W.heap.size := by have := hbW.size; rw [HS0.out] at this; exact this
  obtain ⟨y0, y1, y2⟩ := Bx.of hk0
  obtain ⟨r0, r1, r2, f0, f1, f2⟩ := Rz.of hk1
  have HK0 := Lib.hid hk0
  have HK1 := Lib.hid hk1
  have HBW := Lib.hid (HB0.out.trans (hbW.mono (by rw [HS0.out]; omega)))
  have HSW := Lib.hid ((HS.out.below HB0.out rfl).below hbW rfl)
  clear hbW hk0 hk1 x0 x1 x2 hW0
  by_cases hr : right c = true
  · have HRT := Lib.hid hr
    have hg := (right_iff c).1 hr
    unfold Right at hg
    have hlen : c.held.length ≤ 64 := by omega
    have HGD := Lib.hid hg
    rw [hr]
    clear hr hg
    have HOF := Lib.hid (of_any c a cap W (by omega) HGD.out.2.2.2.2.2.2.1 HSW.out.wf HSW.out.src)
    unfold sval at HOF
    go_wp2_with fail
    refine HOF.out.mono ?_
    rintro e W2 ⟨b, rfl, hbb, hdesk, hb2⟩
    have hlook := hdesk.look blk hb0 hb1
    have hk0 : W2.heap[w.heap.size]? = W.heap[w.heap.size]? := hb2.block _ (by omega)
    have hk1 : W2.heap[w.heap.size + 1]? = W.heap[w.heap.size + 1]? := hb2.block _ (by omega)
    rw [HK0.out] at hk0
    rw [HK1.out] at hk1
    have HX2 := Lib.hid (Bx.of hk0)
    have HR2 := Lib.hid (Rz.of hk1)
    obtain ⟨y0, y1, y2⟩ := Bx.of hk0
    obtain ⟨r0, r1, r2, f0, f1, f2⟩ := Rz.of hk1
    have hz2 : W.heap.size ≤ W2.heap.size := hb2.size
    have lX2 : w.heap.size < W2.heap.size := by omega
    have lR2 : w.heap.size + 1 < W2.heap.size := by omega
    have HB2 := Lib.hid (HBW.out.trans (hb2.mono (by omega)))
    have HDK := Lib.hid hdesk
    have HBB := Lib.hid hbb
    clear hk0 hk1 hb2 hdesk hbb
    rcases hf : find blk c.held with _ | h
    · have E := Lib.hid (show take c blk = (⟨#[]⟩, zero, 5) by unfold take; rw [if_pos HRT.out, hf])
      rw [hf] at hlook
      simp only [Option.getD_none, Option.isSome_none, hval, zeroH] at hlook
      clear hf
      go_wp2
      obtain ⟨z0, z1, z2⟩ := set3_at (w := W2) (R := w.heap.size + 1) (x := .int .i64 0) (y := .int .i64 0) (z := .slice none 0 0) r0 r1 r2
      refine bodyPost_ret (v := .tuple #[.string ⟨#[]⟩, .agg #[.int .i64 0, .int .i64 0, .slice none 0 0], .int .i64 5]) ?_ rfl ?_
      · exact results_tct (t := 4) (p := 5) (u := 6) (ty := TS) rfl _ _ _ ⟨w.heap.size + 1, 0, none⟩ _ (by rfl) (load_sh _ _ _ _ _ (cellAl z0 _) (cellAl z1 _) (cellAl z2 _))
      · exact ⟨none, 0, by rw [E.out]; rfl, by rw [E.out]; exact ShW.zero _, (Below.set3 HB2.out (by omega) _ _ _).alloc (by simp; omega) _⟩
    · by_cases hcl : c.clock = MaxC
      · have E := Lib.hid (show take c blk = (⟨#[]⟩, zero, 4) by unfold take; rw [if_pos HRT.out, hf]; simp only; rw [if_pos hcl])
        rw [hf] at hlook
        simp only [Option.getD_some, Option.isSome_some, hval] at hlook
        clear hf
        unfold MaxC at hcl
        rw [hcl] at y1
        have HCL := Lib.hid hcl
        clear hcl
        go_wp2
        obtain ⟨z0, z1, z2⟩ := set3_at (w := W2) (R := w.heap.size + 1) (x := .int .i64 0) (y := .int .i64 0) (z := .slice none 0 0) r0 r1 r2
        refine bodyPost_ret (v := .tuple #[.string ⟨#[]⟩, .agg #[.int .i64 0, .int .i64 0, .slice none 0 0], .int .i64 4]) ?_ rfl ?_
        · exact results_tct (t := 4) (p := 5) (u := 6) (ty := TS) rfl _ _ _ ⟨w.heap.size + 1, 0, none⟩ _ (by rfl) (load_sh _ _ _ _ _ (cellAl z0 _) (cellAl z1 _) (cellAl z2 _))
        · exact ⟨none, 0, by rw [E.out]; rfl, by rw [E.out]; exact ShW.zero _, (Below.set3 HB2.out (by omega) _ _ _).alloc (by simp; omega) _⟩
      · have E := Lib.hid (show take c blk = (h.txt, after c c.held blk h.txt, 0) by unfold take; rw [if_pos HRT.out, hf]; simp only; rw [if_neg hcl])
        rw [hf] at hlook
        simp only [Option.getD_some, Option.isSome_some, hval] at hlook
        obtain ⟨hmem, hhb⟩ := find_some hf
        have hblk : 0 ≤ blk := by rw [← hhb]; exact (HGD.out.2.2.2.2.2.1 h hmem).1
        have HF := Lib.hid hf
        unfold MaxC at hcl
        clear hf hmem hhb
        obtain ⟨W3, hW3⟩ : ∃ W3, W2.alloc (hobj h) = W3 := ⟨_, rfl⟩
        have hz3 : W3.heap.size = W2.heap.size + 1 := by rw [← hW3, size_alloc']
        have hX3 : Bx W3 w.heap.size c.room c.clock a c.held.length cap := by rw [← hW3]; exact ⟨cellAl HX2.out.x0 _, cellAl HX2.out.x1 _, cellAl HX2.out.x2 _⟩
        have hR3 : Rz W3 (w.heap.size + 1) := by rw [← hW3]; exact HR2.out.kept (Below.heap_alloc _ _ _ lR2)
        have hT3 : W3.cell? ⟨W2.heap.size, 2, none⟩ = some (.string h.txt) := by rw [← hW3]; exact (HBox.new W2 h).at_.2.2
        have hD3 : DeskW W3 b c.held.length c.held := by rw [← hW3]; exact HDK.out.alloc _
        have hB3 : Below w.heap.size w W3 := by rw [← hW3]; exact HB2.out.alloc (by omega) _
        have hbl := HDK.out.lt
        have hbb := HBB.out
        have huk := used_kept W3 b c.held.length c.held c a cap blk h.txt w.heap.size (w.heap.size + 1) (w.heap.size + 2) hD3 (by omega) (by omega) HGD.out.2.2.1 (by have := HGD.out.2.2.2.1; unfold MaxC at this ⊢; omega) hblk hb1 (by omega) (by omega) (by omega) hX3 hR3
        have h28 : ∀ w', RowKit.Hid (Below W3.heap.size W3 w') → Calls Try.prog 28 #[.map (some b), .agg #[.int .i64 c.room, .int .i64 c.clock, .slice a c.held.length cap], .int .i64 blk, .string h.txt] w' fun e w1 => ∃ a' n k, e = .returned (.agg #[.int .i64 c.room, .int .i64 (c.clock + 1), .slice a' n k]) ∧
            (w1.cell? ⟨W2.heap.size, 2, none⟩ = some (.string h.txt) ∧ w1.cell? ⟨w.heap.size, 0, none⟩ = some (.int .i64 c.room) ∧ w1.cell? ⟨w.heap.size, 1, none⟩ = some (.int .i64 c.clock) ∧ w1.cell? ⟨w.heap.size, 2, none⟩ = some (.slice a c.held.length cap)) ∧
            (w1.cell? ⟨w.heap.size + 1, 0, none⟩ = some (.int .i64 0) ∧ w1.cell? ⟨w.heap.size + 1, 1, none⟩ = some (.int .i64 0) ∧ w1.cell? ⟨w.heap.size + 1, 2, none⟩ = some (.slice none 0 0) ∧ w1.frozen? ⟨w.heap.size + 1, 0, none⟩ = false ∧ w1.frozen? ⟨w.heap.size + 1, 1, none⟩ = false ∧ w1.frozen? ⟨w.heap.size + 1, 2, none⟩ = false) ∧
            RowKit.Hid (OwnH w1 W3.heap.size a' n k (put ⟨blk, c.clock + 1, h.txt⟩ c.held)) ∧ RowKit.Hid (Below w.heap.size w w1) := fun w' hb =>
          (huk w' hb).mono fun e w1 ⟨a', n, k, he, p1, p2, p3, p4, p5⟩ => ⟨a', n, k, he, ⟨by rw [World.cell?_of_block (a := ⟨W2.heap.size, 2, none⟩) (p3.out W2.heap.size (by omega) (by omega))]; exact hT3, p5.out.x0, p5.out.x1, p5.out.x2⟩, ⟨p4.out.r0, p4.out.r1, p4.out.r2, p4.out.f0, p4.out.f1, p4.out.f2⟩, p1, Lib.hid (hB3.trans (p2.out.mono (by omega)))⟩
        obtain ⟨y0, y1, y2⟩ := hX3
        obtain ⟨r0, r1, r2, f0, f1, f2⟩ := hR3
        have H28 := Lib.hid h28
        have HDR := Lib.hid ((Below.refl W3.heap.size W3).drew)
        have HZ3 := Lib.hid hz3
        have hne : W2.heap.size ≠ w.heap.size + 1 := by omega
        have hne2 : w.heap.size ≠ w.heap.size + 1 := by omega
        clear h28 huk hD3 hB3 hz3 hbl hbb
        go_wp2_with fail
        go_region_held3 (fun w' => w'.cell? ⟨W2.heap.size, 2, none⟩ = some (.string h.txt) ∧ w'.cell? ⟨w.heap.size, 0, none⟩ = some (.int .i64 c.room) ∧ w'.cell? ⟨w.heap.size, 1, none⟩ = some (.int .i64 c.clock) ∧ w'.cell? ⟨w.heap.size, 2, none⟩ = some (.slice a c.held.length cap))
          (first | assumption | (refine ⟨?_, ?_, ?_, ?_⟩ <;> assumption) | (exact ⟨(set3_far hne).trans (by assumption), (set3_far hne2).trans (by assumption), (set3_far hne2).trans (by assumption), (set3_far hne2).trans (by assumption)⟩) | go_keep)
          (first | (go_at_call 28; refine (H28.out _ HDR).mono ?_; rintro e w28 ⟨a', n, k, rfl, ⟨t0, t1, t2, t3⟩, ⟨s0, s1, s2, s3, s4, s5⟩, h28, hb28⟩))
        have hlen2 := h28.out.len
        have lR3 : w.heap.size + 1 < W3.heap.size := by rw [HZ3.out]; omega
        have HL2 := Lib.hid hlen2
        clear hlen2
        go_wp2
        obtain ⟨z0, z1, z2⟩ := set3_at (x := .int .i64 c.room) (y := .int .i64 (c.clock + 1)) (z := .slice a' n k) s0 s1 s2
        refine bodyPost_ret (v := .tuple #[.string h.txt, .agg #[.int .i64 c.room, .int .i64 (c.clock + 1), .slice a' n k], .int .i64 0]) ?_ rfl ?_
        · exact results_tct (t := 4) (p := 5) (u := 6) (ty := TS) rfl _ _ _ ⟨w.heap.size + 1, 0, none⟩ _ (by rfl) (load_sh _ _ _ _ _ z0 z1 z2)
        · refine ⟨a', k, ?_, ?_, Below.set3 hb28.out (by omega) _ _ _⟩
          · rw [E.out]
            unfold sval after
            simp only
            rw [HL2.out]
          · rw [E.out]
            exact ⟨(((h28.out.set lR3 _).set lR3 _).set lR3 _).src, fun ha => ⟨HL2.out.trans (h28.out.nil ha).1, (h28.out.nil ha).2⟩, HSW.out.wf.put HGD.out.2.2.2.2.2.2.1 _ hb0 hb1⟩
  · have hrf : right c = false := by simpa using hr
    have E := Lib.hid (show take c blk = (⟨#[]⟩, zero, 1) by unfold take; rw [if_neg hr])
    rw [hrf]
    clear hr hrf
    go_wp2
    obtain ⟨z0, z1, z2⟩ := set3_at (x := .int .i64 0) (y := .int .i64 0) (z := .slice none 0 0) r0 r1 r2
    refine bodyPost_ret (v := .tuple #[.string ⟨#[]⟩, .agg #[.int .i64 0, .int .i64 0, .slice none 0 0], .int .i64 1]) ?_ rfl ?_
    · exact results_tct (t := 4) (p := 5) (u := 6) (ty := TS) rfl _ _ _ ⟨w.heap.size + 1, 0, none⟩ _ (by rfl) (load_sh _ _ _ _ _ z0 z1 z2)
    · exact ⟨none, 0, by rw [E.out]; rfl, by rw [E.out]; exact ShW.zero _, Below.set3 HBW.out (by omega) _ _ _⟩
end Cache
end Go.Proofs.Ytpkhafijmbgcnaa
