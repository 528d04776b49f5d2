/- Contracts of layer 5 (front), second part: bytes that are brought to the front in memory. -/
import Derived.Test.YtlanididnlmnhaaFCalls
import Derived.Laws.CopyOwn
import Derived.StillTailTactics
namespace Go.Proofs.Ytlanididnlmnhaa
namespace Front
open Go.RowKit
open Kit (bval)
set_option linter.unusedVariables false

/-- A block that begins with these bytes, none of them frozen. -/
def Byt (w : World) (g : Nat) (l : T) : Prop := g < w.heap.size ∧ (∀ j, j < l.length → w.cell? ⟨g, j, none⟩ = some (bval (l.getD j 0))) ∧ ∀ j, j < l.length → w.frozen? ⟨g, j, none⟩ = false
theorem Byt.below {w w' : World} {g B : Nat} {l : T} (h : Byt w g l) (hb : Below B w w') (hg : g < B) : Byt w' g l :=
  ⟨by have := h.1; have := hb.size; omega, fun j hj => by rw [hb.cell (p := ⟨g, j, none⟩) hg]; exact h.2.1 j hj, fun j hj => by rw [hb.frozen (p := ⟨g, j, none⟩) hg]; exact h.2.2 j hj⟩
theorem Byt.grown {w w' : World} {g : Nat} {row : Option Nat} {l : T} (h : Byt w g l) (hb : w.grownBy w' row) (hg : some g ≠ row) : Byt w' g l := by
  have e := hb.block g h.1 hg
  exact ⟨by have := h.1; have := hb.size; omega, fun j hj => by rw [World.cell?_of_block (w := w) (a := ⟨g, j, none⟩) e]; exact h.2.1 j hj, fun j hj => by rw [World.frozen?_of_block (w := w) (a := ⟨g, j, none⟩) e]; exact h.2.2 j hj⟩
theorem getD_at (l : T) (j : Nat) (h : j < l.length) : l.getD j 0 = l[j] := by rw [List.getD, List.getElem?_eq_getElem h, Option.getD_some]
theorem Byt.src {w : World} {g : Nat} {l : T} (h : Byt w g l) : Kit.Src w (some ⟨g, 0, none⟩) (l.map bval) := by
  intro j u hu
  rw [List.getElem?_map] at hu
  obtain ⟨x, hx, rfl⟩ := Option.map_eq_some_iff.1 hu
  obtain ⟨hj, rfl⟩ := List.getElem?_eq_some_iff.1 hx
  exact ⟨g, 0, rfl, by rw [Nat.zero_add, ← getD_at l j hj]; exact h.2.1 j hj⟩
theorem Byt.new (w : World) (t : ByteArray) (cp e : Nat) : Byt (w.drew.alloc (.cells (bytesRow t cp) e ((bytesRow t cp).size, (bytesRow t cp).size + 1))) w.heap.size t.data.toList := by
  refine ⟨by simp, fun j hj => ?_, fun j hj => ?_⟩
  · have h := World.cell?_alloc_mark w.drew (bytesRow t cp) e ((bytesRow t cp).size, (bytesRow t cp).size + 1) j
    have hj2 : j < t.data.size := by simpa using hj
    refine Eq.trans h ?_
    rw [bytesRow_at t cp j hj2, getD_at _ j hj]; rfl
  · have h := World.frozen?_alloc_mark w.drew (bytesRow t cp) e (bytesRow t cp).size ((bytesRow t cp).size + 1) j
    refine Eq.trans h ?_
    have hj2 : j < t.data.size := by simpa using hj
    have : t.data.size ≤ (bytesRow t cp).size := by unfold bytesRow; simp
    have h1 : ¬ (bytesRow t cp).size ≤ j := by omega
    simp [h1]
theorem grown_refl (w : World) (row : Option Nat) : w.grownBy w row := ⟨rfl, rfl, rfl, Nat.le_refl _, fun _ _ _ => rfl⟩
theorem grown_trans {a b c : World} {row : Option Nat} (h : a.grownBy b row) (k : b.grownBy c row) : a.grownBy c row :=
  ⟨k.os.trans h.os, k.tape.trans h.tape, k.output.trans h.output, Nat.le_trans h.size k.size, fun i hi hr => (k.block i (by have := h.size; omega) hr).trans (h.block i hi hr)⟩
theorem grown_drew {a b : World} {row : Option Nat} (h : a.grownBy b row) : a.grownBy b.drew row := ⟨h.os, h.tape, h.output, h.size, h.block⟩
theorem grown_alloc {a b : World} {row : Option Nat} (h : a.grownBy b row) (o : Obj) : a.grownBy (b.alloc o) row := grown_trans h (World.grownBy_alloc b o row)
theorem grown_set (w : World) (g j : Nat) (v : Value) : w.grownBy (w.setCell ⟨g, j, none⟩ v) (some g) :=
  ⟨rfl, rfl, rfl, by simp [World.setCell], fun k hk hr => Below.heap_setCell _ _ _ _ (fun e => hr (by rw [e]))⟩
theorem grown_sets (g : Nat) : ∀ (vs : List Value) (o : Nat) (w : World), w.grownBy (w.setCells g o vs) (some g)
  | [], _, w => grown_refl w _
  | v :: r, o, w => grown_trans (grown_set w g o v) (grown_sets g r (o + 1) _)
theorem below_of_grown {w w' : World} {g B : Nat} (h : w.grownBy w' (some g)) (hB : B ≤ g) (hw : B ≤ w.heap.size) : Below B w w' :=
  (Below.refl _ _).grown h hw (fun k hk => by injection hk with hk; omega)

theorem indexByte_eq (l : T) (c : UInt8) : Lib.indexByte l c = plcI l c := by
  induction l with
  | nil => rfl
  | cons x l ih =>
    rw [Lib.indexByte]
    by_cases h : x = c
    · subst h
      unfold plcI
      simp
    · have h1 : (x == c) = false := by simpa using h
      rw [h1]
      simp only [Bool.false_eq_true, if_false]
      rw [ih]
      by_cases hm : c ∈ l
      · have e1 : plcI l c = (l.idxOf c : Int) := by unfold plcI; rw [if_pos hm]
        have e2 : plcI (x :: l) c = ((l.idxOf c + 1 : Nat) : Int) := by
          unfold plcI; rw [if_pos (List.mem_cons_of_mem _ hm), List.idxOf_cons, h1]; rfl
        have : ((l.idxOf c : Int) == -1) = false := by simp
        rw [e1, e2, this]
        simp
      · have e1 : plcI l c = -1 := by unfold plcI; rw [if_neg hm]
        have e2 : plcI (x :: l) c = -1 := by
          unfold plcI; rw [if_neg]
          intro h2
          rcases List.mem_cons.1 h2 with h3 | h3
          · exact h h3.symm
          · exact hm h3
        rw [e1, e2]; rfl
theorem bytesOf_nums (l : T) : Lib.bytesOf (l.map fun x => (x.toNat : Int)) = l := by
  unfold Lib.bytesOf
  rw [List.map_map]
  conv => rhs; rw [← List.map_id l]
  apply List.map_congr_left
  intro x _
  simp

set_option maxRecDepth 100000 in
set_option maxHeartbeats 400000 in
theorem index_any (w : World) (g n cp : Nat) (l : T) (c : UInt8) (hl : l.length = n) (hb : Byt w g l) :
    Calls Try.prog 28 #[.slice (some ⟨g, 0, none⟩) n cp, .int .u8 (c.toNat : Int)] w fun e w' => e = .returned (.int .i64 (plcI l c)) ∧ w = w' := by
  have hrun := Lib.run_indexByteSlice (P := Try.prog) w g 0 n cp (l.map fun x => (x.toNat : Int)) (by rw [List.length_map]; exact hl) (fun i hi => by
    rw [Nat.zero_add, hb.2.1 i (by omega), getD_at l i (by omega)]
    have h2 : i < (l.map fun x => (x.toNat : Int)).length := by rw [List.length_map]; omega
    rw [List.getD, List.getElem?_eq_getElem h2, Option.getD_some, List.getElem_map]; rfl) (c.toNat : Int)
  rw [bytesOf_nums, show ((c.toNat : Int).toNat.toUInt8) = c from by simp, indexByte_eq] at hrun
  go_enter Try.func28, Try.ntmps28
  go_wp2
  rw [run_callFunc_extern Try.func29 (by kernel_rfl) (by kernel_rfl) (by kernel_rfl) (e := Extern.BytealgIndexByte.indexByte) (by kernel_rfl), hrun]
  simp only [Result.andThen]
  rw [Oper.upon_value]
  go_wp2
  go_ret
  exact ⟨rfl, rfl⟩

/-! ### A byte is brought to the front -/
theorem copy_eq {P : Program} {w w' : World} {ops : Array Oper} {rest : List Oper} {o : Oper} {a : Act} {Q : Exit → Act → World → Prop} (hw : Region.wanted o (yielded ops a.tmps) = true) (s x : Operand) (t : TypeId)
    (ho : o.op = .call { callee := .builtin .copy, args := #[s, x], argTypes := #[t, t] }) {v y v' : Value} (hs : a.eval s = v) (hx : a.eval x = y)
    (hr : (Builtin.copy_ #[t, t] o.type #[v, y]).run P w = .ok v' w') (h : wpList P ops Q rest (a.put o.dst v') w') : wpList P ops Q (o :: rest) a w := by
  refine BigFrame.wpList_want hw fun K hK => ?_
  unfold Oper.wp execOp
  simp only [ho, resolve, invoke, builtin, Sem.run_bind, Sem.run_pure, Result.andThen_ok, List.map_toArray, List.map_cons, List.map_nil, hs, hx, hr]
  exact hK _ _ h

theorem bring_getD (l : T) (k : Nat) (hk : k < l.length) (j : Nat) (hj : j < l.length) : (bring l k).getD j 0 = if j = 0 then l.getD k 0 else if j ≤ k then l.getD (j - 1) 0 else l.getD j 0 := by
  unfold bring
  by_cases h0 : j = 0
  · subst h0
    rw [if_pos rfl]; rfl
  · obtain ⟨i, rfl⟩ : ∃ i, j = i + 1 := ⟨j - 1, by omega⟩
    have hi : i < (l.eraseIdx k).length := by rw [List.length_eraseIdx_of_lt hk]; omega
    rw [if_neg h0]
    show (l.eraseIdx k).getD i 0 = _
    rw [getD_at _ i hi, List.getElem_eraseIdx]
    split
    · rw [if_pos (by omega), getD_at _ _ (by omega)]; rfl
    · rw [if_neg (by omega), getD_at _ _ hj]
theorem Byt.brought {w : World} {g : Nat} {l : T} (h : Byt w g l) (k : Nat) (hk : k < l.length) :
    Byt ((w.setCells g 1 ((l.take k).map bval)).setCell ⟨g, 0, none⟩ (bval (l.getD k 0))) g (bring l k) := by
  have hlen := length_bring l k hk
  have hsz : w.heap.size ≤ ((w.setCells g 1 ((l.take k).map bval)).setCell ⟨g, 0, none⟩ (bval (l.getD k 0))).heap.size := by
    have := (grown_sets g ((l.take k).map bval) 1 w).size
    simpa [World.setCell] using this
  refine ⟨by have := h.1; omega, fun j hj => ?_, fun j hj => ?_⟩
  · rw [bring_getD l k hk j (by omega)]
    have hin : ∀ i (hi : i < ((l.take k).map bval).length), (w.setCells g 1 ((l.take k).map bval)).cell? ⟨g, 1 + i, none⟩ = some ((l.take k).map bval)[i] := by
      refine World.cell?_setCells_in g _ 1 w fun i hi => ?_
      have hi2 : i < k := by simp at hi; omega
      rw [h.2.1 (1 + i) (by omega)]; rfl
    by_cases h0 : j = 0
    · subst h0
      rw [if_pos rfl]
      have hc : (w.setCells g 1 ((l.take k).map bval)).cell? ⟨g, 0, none⟩ = some (bval (l.getD 0 0)) := by
        rw [World.cell?_setCells_out g _ 1 w ⟨g, 0, none⟩ (fun _ _ => .inl (by simp)), h.2.1 0 (by omega)]
      exact World.cell?_setCell_same _ _ _ hc
    · rw [if_neg h0]
      rw [World.cell?_setCell_other _ _ _ _ (by intro e; injection e with _ e2 _; omega)]
      by_cases hjk : j ≤ k
      · rw [if_pos hjk]
        obtain ⟨i, rfl⟩ : ∃ i, j = 1 + i := ⟨j - 1, by omega⟩
        have hi : i < ((l.take k).map bval).length := by simp; omega
        rw [hin i hi, List.getElem_map, List.getElem_take, show 1 + i - 1 = i from by omega, getD_at l i (by omega)]
      · rw [if_neg hjk, World.cell?_setCells_out g _ 1 w ⟨g, j, none⟩ (fun _ _ => .inr (by simp; omega)), h.2.1 j (by omega)]
  · have e : ((w.setCells g 1 ((l.take k).map bval)).setCell ⟨g, 0, none⟩ (bval (l.getD k 0))).frozen? ⟨g, j, none⟩ = w.frozen? ⟨g, j, none⟩ := by
      rw [World.frozen?_setCell, World.frozen?_setCells]
    rw [e]; exact h.2.2 j (by omega)
theorem take_run (w : World) (g n cp : Nat) (l : T) (k : Nat) (hl : l.length = n) (hk : k < n) (hb : Byt w g l) (ty : TypeId) :
    ∃ a, a = (if cp = 1 then (⟨g, 0, none⟩ : Addr) else ⟨g, 1, none⟩) ∧ (n ≤ cp → (Builtin.copy_ #[40, 40] ty #[.slice (some a) (n - 1) (cp - 1), .slice (some ⟨g, 0, none⟩) k cp]).run Try.prog w = .ok (goInt k) (w.setCells g 1 ((l.take k).map bval))) := by
  refine ⟨_, rfl, fun hcp => ?_⟩
  have hsz : (Try.prog.info? 5).map (·.size) = some 1 := by kernel_rfl
  by_cases h1 : k = 0
  · subst h1
    have := run_copy_none (P := Try.prog) w 40 40 ty 5 (some (if cp = 1 then (⟨g, 0, none⟩ : Addr) else ⟨g, 1, none⟩)) (some ⟨g, 0, none⟩) (n - 1) (cp - 1) 0 cp Try.underlying40 hsz (by show Nat.min 0 _ = 0; simp)
    exact this
  · rw [if_neg (by omega)]
    have hlen : ((l.take k).map bval).length = k := by simp; omega
    have := run_copy_cells (P := Try.prog) w 40 40 ty 5 g 1 (n - 1) (cp - 1) ⟨g, 0, none⟩ k cp ((l.take k).map bval) Try.underlying40 hsz (by rw [hlen]; show k = min k (n - 1); omega)
      (fun j v hj => by
        obtain ⟨b', off', e, hc⟩ := (hb.src) j v (by
          rw [List.getElem?_map] at hj ⊢
          rw [List.getElem?_take] at hj
          split at hj
          · exact hj
          · cases hj)
        injection e with e
        injection e with e1 e2
        subst e1 e2
        rw [Kit.addr_add]; exact hc)
      (fun j hj => by rw [hb.2.1 (1 + j) (by omega)]; rfl) (fun j hj => hb.2.2 (1 + j) (by omega)) (Kit.bval_one _)
    rw [hlen] at this
    exact this

end Front
end Go.Proofs.Ytlanididnlmnhaa
