/- What CacheList holds in memory: texts in a cell of eight, a plain list (chapter 21). -/
import Derived.Test.YtpkhafijmbgcnaaDLaw0
namespace Go.Proofs.Ytpkhafijmbgcnaa
namespace Cache
open Go.RowKit Go.Shelf
set_option linter.unusedVariables false

/-- Eight texts in one block. -/
structure Txts (w : World) (B : Nat) (t : Nat → ByteArray) : Prop where
  blk : w.heap[B]? = some (.cells #[.string (t 0), .string (t 1), .string (t 2), .string (t 3), .string (t 4), .string (t 5), .string (t 6), .string (t 7)] 44 (0, 0))
theorem Txts.at_ {w : World} {B : Nat} {t : Nat → ByteArray} (h : Txts w B t) (b : Nat) (hb : b < 8) : w.cell? ⟨B, b, none⟩ = some (.string (t b)) := by
  have g : w.cell? ⟨B, b, none⟩ = #[Value.string (t 0), .string (t 1), .string (t 2), .string (t 3), .string (t 4), .string (t 5), .string (t 6), .string (t 7)][b]? := by simp [World.cell?, h.blk]
  rw [g]
  match b, hb with
  | 0, _ => rfl
  | 1, _ => rfl
  | 2, _ => rfl
  | 3, _ => rfl
  | 4, _ => rfl
  | 5, _ => rfl
  | 6, _ => rfl
  | 7, _ => rfl
theorem Txts.text {w : World} {B : Nat} {t : Nat → ByteArray} (h : Txts w B t) (i : Nat) {v : Value} (hv : w.cell? ⟨B, i, none⟩ = some v) : ∃ s, v = .string s := by
  rcases Nat.lt_or_ge i 8 with hi | hi
  · rw [h.at_ i hi] at hv
    injection hv with hv
    exact ⟨_, hv.symm⟩
  · have g : w.cell? ⟨B, i, none⟩ = #[Value.string (t 0), .string (t 1), .string (t 2), .string (t 3), .string (t 4), .string (t 5), .string (t 6), .string (t 7)][i]? := by simp [World.cell?, h.blk]
    rw [g, Array.getElem?_eq_none (by simpa using hi)] at hv
    cases hv
theorem Txts.fz {w : World} {B : Nat} {t : Nat → ByteArray} (h : Txts w B t) (i : Nat) : w.frozen? ⟨B, i, none⟩ = false := by
  simp [World.frozen?, h.blk]
theorem Txts.lt {w : World} {B : Nat} {t : Nat → ByteArray} (h : Txts w B t) : B < w.heap.size := by
  rcases Nat.lt_or_ge B w.heap.size with hlt | hge
  · exact hlt
  · have := h.blk; rw [Array.getElem?_eq_none hge] at this; cases this
theorem Txts.below {w w' : World} {B D : Nat} {t : Nat → ByteArray} (h : Txts w B t) (hb : Below D w w') (hD : D = w.heap.size) : Txts w' B t :=
  ⟨(hb.block B (by rw [hD]; exact h.lt)).trans h.blk⟩
theorem Txts.set {w : World} {B : Nat} {t : Nat → ByteArray} (h : Txts w B t) (b : Nat) (hb : b < 8) (x : ByteArray) : Txts (w.setCell ⟨B, b, none⟩ (.string x)) B (fun k => if k = b then x else t k) := by
  refine ⟨?_⟩
  match b, hb with
  | 0, _ => simp [World.setCell, Array.getElem?_modify, h.blk]
  | 1, _ => simp [World.setCell, Array.getElem?_modify, h.blk]
  | 2, _ => simp [World.setCell, Array.getElem?_modify, h.blk]
  | 3, _ => simp [World.setCell, Array.getElem?_modify, h.blk]
  | 4, _ => simp [World.setCell, Array.getElem?_modify, h.blk]
  | 5, _ => simp [World.setCell, Array.getElem?_modify, h.blk]
  | 6, _ => simp [World.setCell, Array.getElem?_modify, h.blk]
  | 7, _ => simp [World.setCell, Array.getElem?_modify, h.blk]
theorem Txts.new (w : World) (t : Nat → ByteArray) (ht : ∀ b, t b = ⟨#[]⟩) : Txts (w.alloc (.cells #[.string ⟨#[]⟩, .string ⟨#[]⟩, .string ⟨#[]⟩, .string ⟨#[]⟩, .string ⟨#[]⟩, .string ⟨#[]⟩, .string ⟨#[]⟩, .string ⟨#[]⟩] 44)) w.heap.size t := by
  refine ⟨?_⟩
  simp only [ht]
  exact World.alloc_heap_new _ _
theorem set_far {w : World} {B b k i : Nat} {v : Value} (h : k ≠ B) : (w.setCell ⟨B, b, none⟩ v).cell? ⟨k, i, none⟩ = w.cell? ⟨k, i, none⟩ := by
  have h' : B ≠ k := fun e => h e.symm
  simp [World.cell?, World.setCell, Array.getElem?_modify, h']
theorem set_far_block {w : World} {B b k : Nat} {v : Value} (h : k ≠ B) : (w.setCell ⟨B, b, none⟩ v).heap[k]? = w.heap[k]? := by
  have h' : B ≠ k := fun e => h e.symm
  simp [World.setCell, Array.getElem?_modify, h']
/-- What a shelf holds is not among the texts. -/
theorem HSrc.tset {w : World} {a : Option Addr} {l : List Hd} {B : Nat} {t : Nat → ByteArray} (hs : HSrc w a l) (h : Txts w B t) (b : Nat) (v : Value) : HSrc (w.setCell ⟨B, b, none⟩ v) a l := by
  intro j y hj
  obtain ⟨g, off, ha, h0, h1, h2⟩ := hs j y hj
  have hne : g ≠ B := by
    intro e
    subst e
    obtain ⟨s, hs⟩ := h.text _ h0
    cases hs
  exact ⟨g, off, ha, by rw [set_far hne]; exact h0, by rw [set_far hne]; exact h1, by rw [set_far hne]; exact h2⟩
theorem ShW.tset {w : World} {c : Sh} {a : Option Addr} {k B : Nat} {t : Nat → ByteArray} (g : ShW w c a k) (h : Txts w B t) (b : Nat) (v : Value) : ShW (w.setCell ⟨B, b, none⟩ v) c a k := ⟨g.src.tset h b v, g.nil, g.wf⟩
theorem Txts.ne {w : World} {B D : Nat} {c : Sh} {a : Option Addr} {k : Nat} {t : Nat → ByteArray} (h : Txts w B t) (g : CellSh w D c a k) : D ≠ B := by
  intro e
  subst e
  have h1 := h.blk
  rw [g.blk] at h1
  injection h1 with h1
  injection h1 with h1
  injection h1 with h1
  injection h1 with h1
  cases h1
theorem CellSh.tset {w : World} {B D : Nat} {c : Sh} {a : Option Addr} {k : Nat} {t : Nat → ByteArray} (g : CellSh w D c a k) (h : Txts w B t) (b : Nat) (v : Value) : CellSh (w.setCell ⟨B, b, none⟩ v) D c a k :=
  ⟨(set_far_block (h.ne g)).trans g.blk, g.sh.tset h b v⟩
theorem Txts.put3 {w : World} {B D : Nat} {c : Sh} {a : Option Addr} {k : Nat} {t : Nat → ByteArray} (h : Txts w B t) (g : CellSh w D c a k) (x y z : Value) : Txts (put3 w D x y z) B t :=
  ⟨(put3_far (h.ne g).symm).trans h.blk⟩
/-- A plain list, apart from a shelf's cell. -/
structure Plain (w : World) (D : Nat) (p : Option Addr) (cp : Nat) (l : List Int) : Prop where
  src : Kit.Src w p (l.map inum)
  far : ∀ g o, p = some ⟨g, o, none⟩ → D < g
  room : l.length ≤ cp
  old : ∀ g o, p = some ⟨g, o, none⟩ → g < w.heap.size
theorem Plain.nil' (w : World) (D : Nat) : Plain w D none 0 [] := ⟨Kit.Src.nil _ _, fun g o h => (by cases h), Nat.le_refl _, fun g o h => (by cases h)⟩
theorem Plain.at_ {w : World} {D cp : Nat} {p : Option Addr} {l : List Int} (h : Plain w D p cp l) (j : Nat) (x : Int) (hj : l[j]? = some x) : ∃ b off, p = some ⟨b, off, none⟩ ∧ b < w.heap.size ∧ w.cell? ⟨b, off + j, none⟩ = some (.int .i64 x) := by
  obtain ⟨b, off, ha, hc⟩ := h.src j (inum x) (by rw [List.getElem?_map, hj]; rfl)
  exact ⟨b, off, ha, block_lt_of_cell hc, hc⟩
theorem Plain.below {w w' : World} {D E cp : Nat} {p : Option Addr} {l : List Int} (h : Plain w D p cp l) (hb : Below E w w') (hE : E = w.heap.size) : Plain w' D p cp l := by
  subst hE
  exact ⟨h.src.below hb, h.far, h.room, fun g o e => Nat.lt_of_lt_of_le (h.old g o e) hb.size⟩
theorem Plain.take {w : World} {D cp : Nat} {p : Option Addr} {l : List Int} (h : Plain w D p cp l) (n : Nat) : Plain w D p cp (l.take n) := by
  refine ⟨?_, h.far, by rw [List.length_take]; have := h.room; omega, h.old⟩
  rw [List.map_take]
  exact h.src.take n
theorem Plain.put3 {w : World} {D cp : Nat} {p : Option Addr} {l : List Int} (h : Plain w D p cp l) (x y z : Value) : Plain (Cache.put3 w D x y z) D p cp l := by
  refine ⟨fun j u hu => ?_, h.far, h.room, fun g o e => by rw [put3_size]; exact h.old g o e⟩
  obtain ⟨b, off, ha, hc⟩ := h.src j u hu
  have := h.far b off ha
  exact ⟨b, off, ha, by rw [World.cell?_of_block (put3_far (w := w) (B := D) (k := b) (by omega))]; exact hc⟩
theorem Plain.tset {w : World} {D B cp : Nat} {p : Option Addr} {l : List Int} {t : Nat → ByteArray} (g : Plain w D p cp l) (h : Txts w B t) (b : Nat) (v : Value) : Plain (w.setCell ⟨B, b, none⟩ v) D p cp l := by
  refine ⟨fun j u hu => ?_, g.far, g.room, fun k o e => by have := g.old k o e; simpa using this⟩
  obtain ⟨k, off, ha, hc⟩ := g.src j u hu
  have hne : k ≠ B := by
    intro e
    subst e
    obtain ⟨s, hs⟩ := h.text _ hc
    rw [List.getElem?_map] at hu
    cases hl : l[j]? with
    | none => rw [hl] at hu; cases hu
    | some x =>
      rw [hl] at hu
      injection hu with hu
      rw [← hu] at hs
      cases hs
  exact ⟨k, off, ha, by rw [set_far hne]; exact hc⟩
theorem pput {w : World} {D B cp : Nat} {p : Option Addr} {l : List Int} {x y z : Value} (h : Plain w D p cp l) (hp : ∀ g o, p = some ⟨g, o, none⟩ → g ≠ B) : Plain (Cache.put3 w B x y z) D p cp l := by
  refine ⟨fun j u hu => ?_, h.far, h.room, fun g o e => by rw [put3_size]; exact h.old g o e⟩
  obtain ⟨b, off, ha, hc⟩ := h.src j u hu
  exact ⟨b, off, ha, by rw [World.cell?_of_block (put3_far (w := w) (B := B) (k := b) (hp b off ha))]; exact hc⟩
theorem own_one (w : World) (x : Int) (B : Nat) (hB : B ≤ w.heap.size) : Kit.Own (w.alloc (.cells #[.int .i64 x] TI)) B TI (some ⟨w.heap.size, 0, none⟩) 1 1 [inum x] :=
  World.ownsRow_lit w #[.int .i64 x] 1 hB (by unfold maxLen; omega) rfl
theorem Plain.own {w : World} {B D n c : Nat} {p : Option Addr} {l : List Int} (h : Kit.Own w B TI p n c (l.map inum)) (hn : 0 < n) (hD : D < B) : Plain w D p c l := by
  obtain ⟨g, hp, hBg, hgw, hnc, _, _⟩ := h.at_ hn
  refine ⟨h.src, fun g' o' e => ?_, ?_, fun g' o' e => ?_⟩
  · rw [hp] at e
    injection e with e
    injection e with e1 e2
    omega
  · have := h.len
    rw [List.length_map] at this
    omega
  · rw [hp] at e
    injection e with e
    injection e with e1 e2
    omega
end Cache
end Go.Proofs.Ytpkhafijmbgcnaa
