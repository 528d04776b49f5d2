/- Arguments that are arrays of four integers, or slices of pairs of integers, read as data: what the walk is told of them. No program in sight. -/
import Derived.WalkKit
import Derived.ProofKit
import Derived.OpenShut
import Derived.Deep.Slices
namespace Go.Proofs.Ytpkhafijmbgcnaa
namespace Kit
open Go.ChangeShapes Go.WideShapes Go.ChangeAt Go.RowKit
set_option linter.unusedVariables false

/-- A slice of pairs of integers that came in. -/
def IsPairs (k : IntKind) (w : World) (a : Option Addr) (len cap : Nat) (g : Nat → Int × Int) : Prop :=
  len ≤ cap ∧ cap ≤ maxLen ∧ ∀ i, i < len → ∃ b off, a = some ⟨b, off, none⟩ ∧ w.cell? ⟨b, off + i * 2, none⟩ = some (.int k (g i).1) ∧ w.cell? ⟨b, off + i * 2 + 1, none⟩ = some (.int k (g i).2) ∧ (Lit.int k (g i).1).wf = true ∧ (Lit.int k (g i).2).wf = true

theorem list2 {α : Type} (l : List α) (h : l.length = 2) : ∃ c0 c1, l = [c0, c1] := by
  match l, h with
  | [c0, c1], _ => exact ⟨c0, c1, rfl⟩
theorem list4 {α : Type} (l : List α) (h : l.length = 4) : ∃ c0 c1 c2 c3, l = [c0, c1, c2, c3] := by
  match l, h with
  | [c0, c1, c2, c3], _ => exact ⟨c0, c1, c2, c3, rfl⟩

section
variable {H : Type} {enc : TypeId × Value → H} {P : Program} {w : World} {base : Nat} {spare : Nat → Bool} {held : Bool}

theorem okWide_array {r : Reach} {b0 : Nat} {t e : TypeId} {n : Nat} {v : Value} (ht : P.underlying t = some (.array n e)) (hv : Value.okWide P w r b0 t v) : ∃ cs, v = .agg cs ∧ cs.size = P.cellsOf t := by
  simp only [Value.okWide, ht] at hv
  obtain ⟨cs, h1, h2, _⟩ := hv
  exact ⟨cs, h1, h2⟩

theorem open_arr4 {r : Reach} {b0 : Nat} {t e : TypeId} {k : IntKind} {v : Value} {d : DataW H} {p : List MemPlace} (ht : P.underlying t = some (.array 4 e)) (he : P.underlying e = some (.int k))
    (hct : P.cellsOf t = 4) (hce : P.cellsOf e = 1) (hv : Value.okWide P w r b0 t v) (h : DataW.Trod enc P w base spare held t v d p) :
    ∃ n0 n1 n2 n3 : Int, (Lit.int k n0).wf = true ∧ (Lit.int k n1).wf = true ∧ (Lit.int k n2).wf = true ∧ (Lit.int k n3).wf = true ∧ v = .agg #[.int k n0, .int k n1, .int k n2, .int k n3] := by
  obtain ⟨cs, rfl, hsz⟩ := okWide_array ht hv
  obtain ⟨fuel, hf⟩ := h
  obtain ⟨xs, fm, _, _, hlen, hxl, hel⟩ := DataW.trod_array ht hf
  rw [hce] at hel
  rw [hct] at hsz
  obtain ⟨l⟩ := cs
  obtain ⟨c0, c1, c2, c3, rfl⟩ := list4 l hsz
  obtain ⟨y0, y1, y2, y3, rfl⟩ := list4 xs hxl
  have g0 := hel 0 (by omega)
  have g1 := hel 1 (by omega)
  have g2 := hel 2 (by omega)
  have g3 := hel 3 (by omega)
  simp [Value.cells] at g0 g1 g2 g3
  obtain ⟨n0, e0, _, f0⟩ := DataW.trod_int he g0
  obtain ⟨n1, e1, _, f1⟩ := DataW.trod_int he g1
  obtain ⟨n2, e2, _, f2⟩ := DataW.trod_int he g2
  obtain ⟨n3, e3, _, f3⟩ := DataW.trod_int he g3
  simp at e0 e1 e2 e3
  subst e0 e1 e2 e3
  exact ⟨n0, n1, n2, n3, f0, f1, f2, f3, rfl⟩

theorem add_spot {w : World} {x : Addr} {n : Nat} {v : Value} (h : w.cell? (x.add n) = some v) (h0 : n = 0 ∨ ∃ u, w.cell? x = some u) : x.spot = none := by
  rcases h0 with rfl | ⟨u, hu⟩
  · exact World.cell?_spot (by simpa [Addr.add] using h)
  · exact World.cell?_spot hu

theorem open_pair {t e : TypeId} {k : IntKind} {x : Addr} {i n : Nat} {cs : List Value} {y : DataW H × List MemPlace} (ht : P.underlying t = some (.array 2 e)) (he : P.underlying e = some (.int k))
    (hct : P.cellsOf t = 2) (hce : P.cellsOf e = 1) (h1 : w.cells? base (x.add (i * 2)) 2 = some cs) (h2 : DataW.trod enc P w base spare held n t cs = some y) :
    ∃ n0 n1 : Int, w.cell? (x.add (i * 2)) = some (.int k n0) ∧ w.cell? ((x.add (i * 2)).add 1) = some (.int k n1) ∧ (Lit.int k n0).wf = true ∧ (Lit.int k n1).wf = true := by
  obtain ⟨xs, fm, _, _, hlen, hxl, hel⟩ := DataW.trod_array ht h2
  rw [hct] at hlen
  rw [hce] at hel
  obtain ⟨c0, c1, rfl⟩ := list2 cs hlen
  obtain ⟨y0, y1, rfl⟩ := list2 xs hxl
  have g0 := hel 0 (by omega)
  have g1 := hel 1 (by omega)
  simp at g0 g1
  obtain ⟨n0, e0, _, f0⟩ := DataW.trod_int he g0
  obtain ⟨n1, e1, _, f1⟩ := DataW.trod_int he g1
  simp at e0 e1
  subst e0 e1
  obtain ⟨_, _, hc⟩ := World.cells?_some h1
  have q0 := hc 0 (by simp)
  have q1 := hc 1 (by simp)
  refine ⟨n0, n1, ?_, ?_, f0, f1⟩
  · simpa [Addr.add] using q0
  · simpa using q1

theorem open_pairs {t u e : TypeId} {k : IntKind} {a : Option Addr} {len cap : Nat} {d : DataW H} {p : List MemPlace} (ht : P.underlying t = some (.slice u)) (hu : P.underlying u = some (.array 2 e)) (he : P.underlying e = some (.int k))
    (hcu : P.cellsOf u = 2) (hce : P.cellsOf e = 1) (h : DataW.Trod enc P w base spare held t (.slice a len cap) d p) : ∃ g, IsPairs k w a len cap g := by
  obtain ⟨fuel, hf⟩ := h
  rcases Deep.open_slice ht hf with ⟨hcs, _⟩ | ⟨x, l, c, m, fu, D, Pl, hcs, _, hl, hm, hmm, _, hx⟩
  · simp [Value.cells] at hcs
    obtain ⟨rfl, rfl, rfl⟩ := hcs
    exact ⟨fun _ => (0, 0), Nat.le_refl _, Nat.zero_le _, fun i h => absurd h (by omega)⟩
  · simp [Value.cells] at hcs
    obtain ⟨rfl, rfl, rfl⟩ := hcs
    have hml : len ≤ m := by rw [hmm]; split <;> omega
    rw [hcu] at hx
    have hone : ∀ i, i < len → ∃ y : Int × Int, ∃ b off, some x = some (⟨b, off, none⟩ : Addr) ∧ w.cell? ⟨b, off + i * 2, none⟩ = some (.int k y.1) ∧ w.cell? ⟨b, off + i * 2 + 1, none⟩ = some (.int k y.2) ∧ (Lit.int k y.1).wf = true ∧ (Lit.int k y.2).wf = true := by
      intro i hi
      obtain ⟨cs0, h01, h02⟩ := hx 0 (by omega)
      obtain ⟨_, _, hz, _, _, _⟩ := open_pair hu he hcu hce h01 h02
      have hsp : x.spot = none := add_spot hz (.inl (by omega))
      obtain ⟨cs1, h1, h2⟩ := hx i (by omega)
      obtain ⟨n0, n1, q0, q1, f0, f1⟩ := open_pair hu he hcu hce h1 h2
      obtain ⟨b, off, spot⟩ := x
      simp only at hsp
      subst hsp
      have hadd : ∀ j, (⟨b, off, none⟩ : Addr).add j = ⟨b, off + j, none⟩ := by
        intro j; unfold Addr.add; split <;> simp_all
      rw [Deep.add_add, hadd] at q1
      rw [hadd] at q0
      exact ⟨(n0, n1), b, off, rfl, q0, q1, f0, f1⟩
    obtain ⟨g, hg⟩ := Deep.choose_lt hone
    exact ⟨g, hl, hm, hg⟩
end
end Kit
end Go.Proofs.Ytpkhafijmbgcnaa
