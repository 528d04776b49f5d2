/- What is sorted (chapter 21). -/
import Derived.Test.YtpkhafijmbgcnaaCSort
import Derived.Shelf.SlSortCmp.NoneTotal
namespace Go.Proofs.Ytpkhafijmbgcnaa
namespace Cache
open Go.RowKit Go.Shelf Go.Lib Go.Sort
set_option linter.unusedVariables false

theorem flatK_eq (l : List Hd) : flatK hcells 3 l.toArray = (flat l).toArray := by
  apply Array.ext
  · rw [size_flatK]; simp [flat_length]
  · intro i h1 h2
    have hi : i < (flat l).length := by simpa using h2
    obtain ⟨x, hx, hu⟩ := flat_at l i (flat l)[i] (List.getElem?_eq_getElem hi)
    have h3 : i < l.toArray.size * 3 := by rw [size_flatK] at h1; exact h1
    have e := get_flatK hcells 3 l.toArray i h3
    rw [getElem!_pos _ i h1] at e
    rw [e]
    have hx1 : l.toArray[i / 3]! = x := by
      obtain ⟨hlt, hg⟩ := List.getElem?_eq_some_iff.1 hx
      rw [getElem!_pos _ _ (by simpa using hlt)]
      simpa using hg
    rw [hx1]
    obtain ⟨hlt, hg⟩ := List.getElem?_eq_some_iff.1 hu
    rw [getElem!_pos (hcells x) (i % 3) hlt, hg]
    simp
theorem flatK_arr (d : Array Hd) : flatK hcells 3 d = (flat d.toList).toArray := by
  have h := flatK_eq d.toList
  simpa using h
theorem heap_sortedK {w : World} {g n : Nat} {os : Array Obj} {cur : Array Value} {e : TypeId} {fr : Nat × Nat} (d : Array Hd) (hb : w.heap[g]? = some (.cells cur e fr)) :
    (sortWorldK hcells 3 w g 0 n d os).heap[g]? = some (.cells (Sort.putCells id 0 (flatK hcells 3 d) cur) e fr) := by
  have hg : g < w.heap.size := (Array.getElem?_eq_some_iff.1 hb).1
  unfold sortWorldK putRowK
  rw [Sort.heap_grow_old _ _ (by simpa using hg)]
  simp [Sort.putRow, Sort.mapBlock, Sort.ahead, Array.getElem?_modify, hb, Sort.onCells]
theorem grownBy_sortedK {w : World} {g n : Nat} {os : Array Obj} (d : Array Hd) : w.grownBy (sortWorldK hcells 3 w g 0 n d os) (some g) := by
  unfold sortWorldK putRowK
  refine ⟨rfl, rfl, rfl, by simp, fun k hk hne => ?_⟩
  rw [Sort.heap_grow_old _ _ (by simpa using hk)]
  have : g ≠ k := fun e => hne (by rw [e])
  simp [Sort.putRow, Sort.mapBlock, Sort.ahead, Array.getElem?_modify, this]
theorem take_put (cur : Array Value) (ts : List Value) (h : ts.length ≤ cur.size) : (Sort.putCells id 0 ts.toArray cur).toList.take ts.length = ts := by
  apply List.ext_getElem?
  intro j
  by_cases hj : j < ts.length
  · rw [List.getElem?_take_of_lt hj, Array.getElem?_toList]
    simp [Sort.putCells, hj, show j < cur.size by omega]
  · rw [List.getElem?_take_eq_none (by omega), List.getElem?_eq_none (by omega)]
theorem OwnH.holds {w : World} {B g n c : Nat} {l : List Hd} (h : OwnH w B (some ⟨g, 0, none⟩) n c l) : HoldsK hcells 3 w g 0 l.toArray := by
  unfold HoldsK
  rw [flatK_eq]
  intro j hj
  have hj2 : j < (flat l).length := by simpa using hj
  have hl := h.len
  have hlen := flat_length l
  refine ⟨?_, World.ownsRow.frozenAt h _⟩
  rw [Nat.zero_add, World.ownsRow.cellAt h j (by omega), List.getElem?_eq_getElem hj2, getElem!_pos (flat l).toArray j hj]
  simp
theorem OwnH.sorted {w : World} {B g n c m : Nat} {l l' : List Hd} {os : Array Obj} (h : OwnH w B (some ⟨g, 0, none⟩) n c l) (hl : l'.length = n) : OwnH (sortWorldK hcells 3 w g 0 m l'.toArray os) B (some ⟨g, 0, none⟩) n c l' := by
  have hfl := flat_length l'
  obtain ⟨h1, h2⟩ := h
  refine ⟨by omega, ?_⟩
  rcases h2 with ⟨h2, _⟩ | ⟨g', cap, cur, hv, hbg, hg, hnc, hcm, hs, ht⟩
  · cases h2
  · injection hv with ha hn hc
    injection ha with ha
    injection ha with ha
    subst ha hc
    refine .inr ⟨g, c, _, rfl, hbg, heap_sortedK _ hg, hnc, hcm, by simp [Sort.putCells, hs], ?_⟩
    rw [flatK_eq, ← hl, ← hfl]
    exact take_put cur _ (by omega)
theorem cmp_lt (a b : Int) : (Lib.compareInt a b < 0) ↔ a < b := by
  unfold Lib.compareInt
  split
  · rename_i h; constructor <;> intro _ <;> omega
  · split
    · rename_i h1 h2; constructor <;> intro _ <;> omega
    · rename_i h1 h2; constructor <;> intro _ <;> omega
theorem swo (key : Hd → Int) : SWO (ltOf fun x y => Lib.compareInt (key x) (key y)) := by
  have e : ∀ x y, (ltOf fun x y => Lib.compareInt (key x) (key y)) x y = decide (key x < key y) := fun x y => by
    show decide (Lib.compareInt (key x) (key y) < 0) = _
    rw [decide_eq_decide, cmp_lt]
  exact ⟨fun x => by rw [e]; simp, fun x y z h1 h2 => by rw [e, decide_eq_true_eq] at *; omega, fun x y z h1 h2 => by rw [e, decide_eq_false_iff_not] at *; omega⟩
theorem sort_any (p : Nat) (key : Hd → Int) (K : Key p key) (Bs B : Nat) (a : Option Addr) (n c : Nat) (l : List Hd) (w : World) (hm : n ≤ 100000) (hB : B ≤ w.heap.size) (hBs : Bs < B) (ho : OwnH w B a n c l) (hc : w.cell? ⟨Bs, 0, none⟩ = some (.func (.func p) #[] #[])) :
    Calls Try.prog 39 #[.slice a n c, .func (.func 34) #[] #[.pointer (some ⟨Bs, 0, none⟩)]] w fun e w' =>
      e = .returned (.tuple #[]) ∧ ∃ l', l'.Perm l ∧ (l'.Pairwise fun x y => key x ≤ key y) ∧ OwnH w' B a n c l' ∧ Below B w w' := by
  have hl := ho.len
  by_cases h0 : n = 0
  · subst h0
    have hln : l = [] := List.eq_nil_of_length_eq_zero hl
    subst hln
    exact (AnyF.slices_SortFunc_none Try.sortFunc a c _ w).mono fun e w' ⟨he, hw⟩ => ⟨he, [], List.Perm.nil, List.Pairwise.nil, by rw [hw]; exact ho, by rw [hw]; exact Below.refl _ _⟩
  · obtain ⟨g, rfl, hbg, hgl, hnc⟩ := ho.at_ (by omega)
    have hcmp : CmpLays Try.prog 34 #[.pointer (some ⟨Bs, 0, none⟩)] hcells 3 (fun x y => Lib.compareInt (key x) (key y)) g 0 l.toArray.size w := by
      intro m os dk hdk x y
      have hcs : (sortWorldK hcells 3 w g 0 m dk os).cell? ⟨Bs, 0, none⟩ = some (.func (.func p) #[] #[]) := by
        rw [World.cell?_of_block (w := w) ((grownBy_sortedK dk).block Bs (by omega) (fun e => by injection e with e; omega))]
        exact hc
      exact cmp_any p key K Bs x y _ hcs
    have h := AnyQ.slices_SortFunc Try.sortFunc 3 Try.isAgg50 Try.sizeOf50 hcells (fun _ => rfl) (fun x v hv => by simp at hv; rcases hv with rfl | rfl | rfl <;> rfl) (fun x y => Lib.compareInt (key x) (key y)) (swo key) 34 #[.pointer (some ⟨Bs, 0, none⟩)] g 0 c l.toArray w (enters_of Try.func34 (by kernel_rfl) rfl) hcmp ho.holds hgl (by simp; omega)
    have hsz : l.toArray.size = n := by simp [hl]
    rw [hsz] at h
    refine h.mono ?_
    rintro e w' ⟨he, d', m, os, hperm, hsort, rfl⟩
    obtain ⟨hp1, _, hp3⟩ := hperm
    have hd : d'.size = n := by rw [hp1, hsz]
    have hp : d'.toList.Perm l := by
      have e1 : d'.extract 0 n = d' := by rw [← hd]; simp
      have e2 : l.toArray.extract 0 n = l.toArray := by rw [← hsz]; simp
      rw [e1, e2] at hp3
      exact hp3
    refine ⟨he, d'.toList, hp, ?_, ?_, (Below.refl _ _).grown (grownBy_sortedK d') hB (fun k hk => by injection hk with hk; omega)⟩
    · rw [List.pairwise_iff_getElem]
      intro i j hi hj hij
      have hi' : i < d'.size := by simpa using hi
      have hj' : j < d'.size := by simpa using hj
      have hs := hsort i j (by omega) hij (by omega)
      rw [getElem!_pos d' i hi', getElem!_pos d' j hj'] at hs
      have hs2 : ¬ Lib.compareInt (key d'[j]) (key d'[i]) < 0 := by simpa [ltOf] using hs
      rw [cmp_lt] at hs2
      have hs3 : key d'[i] ≤ key d'[j] := by omega
      simpa using hs3
    · have ht := ho.sorted (m := m) (os := os) (l' := d'.toList) (by simpa using hd)
      simpa using ht
end Cache
end Go.Proofs.Ytpkhafijmbgcnaa
