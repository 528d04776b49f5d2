/- Contracts of chapter 4's functions: pieces, length, Length. -/
import Derived.Test.YthdpcjahficlnaaRPiece
import Derived.Stop.RegionWithIn
namespace Go.Proofs.Ythdpcjahficlnaa
namespace Rle
open Go.RowKit Go.Shelf
set_option linter.unusedVariables false
attribute [local go_sem] Oper.semAt_some

theorem ret_int {k : IntKind} {a b : Int} (h : a = b) : Ending.returned (.int k a) = .returned (.int k b) := by rw [h]
theorem ret_bool {a b : Bool} (h : a = b) : Ending.returned (.bool a) = .returned (.bool b) := by rw [h]

set_option maxRecDepth 100000 in
set_option maxHeartbeats 400000 in
theorem pieces_any (s : ByteArray) (w : World) :
    Calls Try.prog 14 #[.string s] w fun e w' => e = .returned (.func (.func 21) #[] #[.pointer (some ⟨w.heap.size, 0, none⟩)]) ∧ w.alloc (.cells #[.string s] 9) = w' := by
  go_enter Try.func14, Try.ntmps14
  go_wp2
  go_ret
  exact ⟨rfl, rfl⟩
set_option maxRecDepth 100000 in
set_option maxHeartbeats 400000 in
theorem length_any (n : Nat) (hn : n ≤ 1000) (w : World) :
    Calls Try.prog 20 #[.int .i64 (n : Int)] w fun e w' => e = .returned (.int .i64 (plen n : Int)) ∧ w = w' := by
  by_cases h : n < 4
  · have e : plen n = n := by unfold plen; rw [if_pos h]
    rw [e]
    clear e
    go_enter Try.func20, Try.ntmps20
    go_wp2
    go_ret
    exact ⟨rfl, rfl⟩
  · have e : plen n = 5 := by unfold plen; rw [if_neg h]
    rw [e]
    clear e
    go_enter Try.func20, Try.ntmps20
    go_wp2
    go_ret
    exact ⟨rfl, rfl⟩

theorem pcs_mem (s x : T) (h : x ∈ pcs s) : 1 ≤ x.length ∧ x.length ≤ 255 := by
  revert h
  refine text_ind (M := fun s => x ∈ pcs s → 1 ≤ x.length ∧ x.length ≤ 255) (fun h => by rw [pcs_nil] at h; cases h) (fun s hs ih h => ?_) s
  rw [pcs_cons s hs, List.mem_cons] at h
  rcases h with rfl | h
  · rw [take_run]; exact ⟨run1_pos s hs, run1_max s⟩
  · exact ih h
/-- What is known of a piece that comes behind some. -/
theorem piece_facts {s : T} {pre : List T} {x : T} (h : pre ++ [x] <+: pcs s) : x.length ≤ 255 ∧ 1 ≤ x.length ∧ lens pre + plen x.length ≤ Len s ∧ (pre.map List.length).sum + x.length ≤ s.length := by
  obtain ⟨h1, h2⟩ := pieces_bound _ s h
  obtain ⟨k1, k2⟩ := pcs_mem s x (h.subset (by simp))
  refine ⟨k2, k1, ?_, ?_⟩
  · rw [lens_append] at h1
    unfold lens at *
    simpa using h1
  · simpa using h2
theorem lens_snoc (pre : List T) (x : T) : lens (pre ++ [x]) = lens pre + plen x.length := by rw [lens_append]; unfold lens; simp

/-- What a round leaves as it was: the cell of a variable of the call's own. -/
structure Var (W : World) (b : Nat) (v : Value) : Prop where
  cell : W.cell? ⟨b, 0, none⟩ = some v
  free : W.frozen? ⟨b, 0, none⟩ = false
theorem Var.new (w : World) (v : Value) (t : TypeId) : Var (w.alloc (.cells #[v] t)) w.heap.size v := ⟨by simp, by simp⟩
theorem Var.alloc {w : World} {b : Nat} {v : Value} (h : Var w b v) (o : Obj) : Var (w.alloc o) b v :=
  ⟨by rw [World.cell?_of_block (w := w) (a := ⟨b, 0, none⟩)]; exact h.cell; exact Lib.alloc_old w o b (block_lt_of_cell h.cell),
   by rw [World.frozen?_of_block (w := w) (a := ⟨b, 0, none⟩)]; exact h.free; exact Lib.alloc_old w o b (block_lt_of_cell h.cell)⟩
theorem Var.of_block {w w' : World} {b : Nat} {v : Value} (h : Var w b v) (e : w'.heap[b]? = w.heap[b]?) : Var w' b v :=
  ⟨by rw [World.cell?_of_block (w := w) (a := ⟨b, 0, none⟩) e]; exact h.cell, by rw [World.frozen?_of_block (w := w) (a := ⟨b, 0, none⟩) e]; exact h.free⟩
theorem Var.put {w : World} {b : Nat} {v : Value} (h : Var w b v) {l : Nat} {o : Obj} (o' : Obj) (hl : w.heap[l]? = some o) (ho : o.isCells = false) : Var (w.putObj l o') b v := by
  refine h.of_block (World.putObj_heap_other ?_)
  rintro rfl
  obtain ⟨o2, h2, h3⟩ := cells_of_cell h.cell
  rw [hl] at h2
  obtain rfl := Option.some.inj h2
  rw [ho] at h3; cases h3
theorem Var.own1 {w w' : World} {b c : Nat} {v : Value} (h : Var w b v) (ho : Own1 c w w') (hne : b ≠ c) : Var w' b v := by
  rcases ho with ⟨n, rfl⟩ | ⟨u, rfl⟩
  · exact h.of_block rfl
  · exact h.of_block (Below.heap_setCell _ _ _ _ hne)
theorem Var.set {w : World} {b : Nat} {v : Value} (h : Var w b v) (u : Value) : Var (w.setCell ⟨b, 0, none⟩ u) b u :=
  ⟨World.cell?_setCell_same _ _ _ h.cell, by rw [World.frozen?_setCell]; exact h.free⟩
theorem Var.other {w : World} {b c : Nat} {v : Value} (h : Var w b v) (u : Value) (hne : b ≠ c) : Var (w.setCell ⟨c, 0, none⟩ u) b v := h.own1 (.inr ⟨u, rfl⟩) hne
theorem Var.lt {w : World} {b : Nat} {v : Value} (h : Var w b v) : b < w.heap.size := block_lt_of_cell h.cell
theorem below_drewN {D : Nat} {w w' : World} (h : Below D w w') (n : Nat) : Below D w (w'.drewN n) := h.trans ⟨rfl, rfl, rfl, Nat.le_refl _, fun _ _ => rfl⟩
theorem below_own1 {B b : Nat} {w A C : World} (h : Below B w A) (ho : Own1 b A C) (hb : B ≤ b) : Below B w C := by
  rcases ho with ⟨n, rfl⟩ | ⟨u, rfl⟩
  · exact below_drewN h n
  · exact h.setCell (p := ⟨b, 0, none⟩) hb _
theorem below_put {B l : Nat} {w A : World} {o : Obj} (o' : Obj) (h : Below B w A) (hl : A.heap[l]? = some o) (hB : B ≤ l) (hw : B ≤ A.heap.size) : Below B w (A.putObj l o') :=
  h.trans ((Below.refl B A).grown (grownBy_putObj' A l o') hw (fun k e => by cases e; exact hB))

set_option maxRecDepth 100000 in
set_option maxHeartbeats 2000000 in
theorem Length_any (s : ByteArray) (hs : s.size ≤ 100000) (w : World) :
    Calls Try.prog 12 #[.string s] w fun e w' => e = .returned (.int .i64 (Len s.data.toList : Int)) ∧ Below w.heap.size w w' := by
  refine (callsIn_wide (n := 3)).1 ?_
  refine callsIn_of_wp_marks Try.func12 rfl trivial ?_ rfl
  simp only [Try.ntmps12, List.size_toArray, List.length_cons, List.length_nil, Nat.reduceAdd, Nat.reduceSub, Array.replicate_succ, Array.replicate_zero, List.push_toArray, List.append_toArray, List.nil_append, List.cons_append]
  gi_wp2_with fail
  refine ⟨trivial, (callsIn_wide.2 (pieces_any s _)).mono ?_⟩
  rintro e w1 ⟨rfl, rfl⟩
  gi_wp2
  have hv := (Var.new w (.int .i64 0) 3).alloc (.cells #[.string s] 9)
  have hbox := Boxed.new (w.alloc (.cells #[.int .i64 0] 3)) 9 (.string s)
  obtain ⟨W0, hW0⟩ : ∃ W0, (w.alloc (.cells #[.int .i64 0] 3)).alloc (.cells #[.string s] 9) = W0 := ⟨_, rfl⟩
  have hsz : W0.heap.size = w.heap.size + 2 := by rw [← hW0]; simp
  have hB0 : Below w.heap.size w W0 := by rw [← hW0]; exact ((Below.refl _ w).alloc (Nat.le_refl _) _).alloc (by simp) _
  rw [hW0] at hv hbox ⊢
  rw [World.size_alloc] at hbox
  have HV := Lib.hid hv
  have HBOX := Lib.hid hbox
  have HB0 := Lib.hid hB0
  have hLen := (Len_bounds s.data.toList).1
  rw [len_text] at hLen
  have hLs : Len s.data.toList ≤ 125000 := by omega
  have hn : w.heap.size ≠ w.heap.size + 1 := by omega
  clear hv hbox hB0 hW0 hLen
  refine range_law (gf := 21) (lb := #[.pointer (some ⟨w.heap.size + 1, 0, none⟩)]) rfl (enters_of Try.func21 (by kernel_rfl) rfl) (fun p : T => .string (bs p)) (w.heap.size + 1) (by omega) (pcs s.data.toList)
    (fun W hW => pieces_seq _ s hs W ((hW.block _ (by omega)).trans HBOX.out))
    (fun pre W => Var W w.heap.size (.int .i64 (lens pre : Int)) ∧ Below w.heap.size w W ∧ W0.heap.size ≤ W.heap.size)
    (fun _ _ _ => False)
    (fun pre W l o o' hl ho hc hi => ⟨hi.1.put o' ho hc, below_put o' hi.2.1 ho (by omega) (by omega), by rw [World.putObj]; simpa using hi.2.2⟩)
    (fun _ _ _ _ _ _ _ _ _ h => h)
    (fun pre A B hi ho => ⟨hi.1.own1 ho hn, below_own1 hi.2.1 ho (by omega), Nat.le_trans hi.2.2 ho.keeps.size⟩)
    (fun o o' => ⟨(HV.out.alloc o).alloc o', (HB0.out.alloc (by omega) o).alloc (by simp; omega) o', by simp; omega⟩)
    (fun x => { tmps := #[.string s, undef, .pointer (some ⟨w.heap.size, 0, none⟩), .string (bs x), .string s, .func (.func 21) #[] #[.pointer (some ⟨w.heap.size + 1, 0, none⟩)], .string (bs x), undef, undef, undef, undef, undef, undef], defers := [] }) ?assign ?body ?done ?stop
  case assign =>
    intro l x W K hK
    gi_wp2
    exact hK
  case body =>
    rintro l pre x W hsW ⟨hv, hB, hz⟩ hpre
    obtain ⟨f1, f2, f3, f4⟩ := piece_facts hpre
    have hc := hv.cell
    have hf := hv.free
    have hbx := bs_size x
    have HV := Lib.hid hv
    have hlp : lens pre ≤ 125000 := by omega
    have hpl := plen_le x.length
    clear f3 f4 hv
    gi_wp2
    gi_region_with ((refine ⟨trivial, ?_⟩; gi_at_call 20; refine (CallsIn.inRound l (callsIn_wide.2 (length_any x.length (by omega) _))).mono ?_; rintro e w' ⟨rfl, rfl⟩))
    all_goals
      gi_wp2
      have hwr : IntKind.i64.wrap ((lens pre : Int) + (plen x.length : Int)) = (lens pre : Int) + (plen x.length : Int) := IntWalk.i64_in _ (by omega)
      rw [hwr]
      have hv2 := (HV.out.set (.int .i64 ((lens pre : Int) + (plen x.length : Int)))).own1 (c := w.heap.size + 1) (.inl ⟨1, rfl⟩) hn
      refine ⟨?_, ?_, ?_, ?_, ?_⟩
      · exact (KeepsOthers.setCell _ _ _).trans (KeepsOthers.drew _)
      · exact (Below.heap_setCell _ _ _ _ (Ne.symm hn))
      · rw [lens_snoc, Int.natCast_add]; exact hv2
      · exact (hB.setCell (p := ⟨w.heap.size, 0, none⟩) (Nat.le_refl _) _).drew
      · simp [World.setCell]; exact hz
  case done =>
    rintro D W hD ⟨hv, hB, hz⟩ hK
    have hc := hv.cell
    have hf := hv.free
    have HV := Lib.hid hv
    clear hv
    gi_wp2
    have hK' := (KeepsOthers.setCell W ⟨w.heap.size, 0, none⟩ (.int .i64 (lens (pcs s.data.toList) : Int))).same D _ hK rfl
    refine ⟨by simp, .inl ⟨_, _, rfl, run_takeDeferred hK', ?_⟩⟩
    have hv5 := (HV.out.set (.int .i64 (lens (pcs s.data.toList) : Int))).put (.deferred none) hK' rfl
    have hc5 := hv5.cell
    refine ⟨.int .i64 (Len s.data.toList : Int), ?_, rfl, ?_⟩
    · rw [← lens_pcs]; simp [results, Try.f12, go_sem, hc5]
    · exact below_put _ (hB.setCell (p := ⟨w.heap.size, 0, none⟩) (Nat.le_refl _) _) hK' (by omega) (by simp [World.setCell]; omega)
  case stop =>
    rintro D c pre W _ _ h _
    exact h.elim
end Rle
end Go.Proofs.Ythdpcjahficlnaa
