/- A slice of integers that came in (chapter 21's law texts). -/
import Derived.Test.YtpkhafijmbgcnaaDKit
namespace Go.Proofs.Ytpkhafijmbgcnaa
namespace Cache
open Go.RowKit
set_option linter.unusedVariables false

/-- A slice of integers that came in. -/
theorem ints_of {w : World} {a : Option Addr} {len cap : Nat} {zs : List Int} (h : (a = none ∧ len = 0 ∧ cap = 0 ∧ zs = []) ∨
  ∃ x, a = some x ∧ len ≤ cap ∧ cap ≤ maxLen ∧ zs.length = cap ∧ (∀ i, i < zs.length → w.cell? (x.add i) = some (.int .i64 (zs.getD i 0))) ∧ ∀ n ∈ zs, (Lit.int .i64 n).wf = true) :
    ∃ l : List Int, l.length = len ∧ len ≤ maxLen ∧ len ≤ cap ∧ cap ≤ maxLen ∧ (a = none → len = 0 ∧ cap = 0) ∧ Kit.Src w a (l.map inum) ∧ ∀ x ∈ l, -9223372036854775808 ≤ x ∧ x ≤ 9223372036854775807 := by
  rcases h with ⟨rfl, rfl, rfl, rfl⟩ | ⟨x, rfl, hl, hm, hz, hcell, hwz⟩
  · exact ⟨[], rfl, Nat.zero_le _, Nat.le_refl _, Nat.zero_le _, fun _ => ⟨rfl, rfl⟩, Kit.Src.nil _ _, fun x h => by cases h⟩
  · refine ⟨zs.take len, by rw [List.length_take]; omega, by omega, hl, hm, fun h => (by cases h), ?_, fun x hx => bounds_i64 (hwz x (List.mem_of_mem_take hx))⟩
    intro j u hu
    rw [List.getElem?_map] at hu
    obtain ⟨y, hy, rfl⟩ := Option.map_eq_some_iff.1 hu
    obtain ⟨hj, rfl⟩ := List.getElem?_eq_some_iff.1 hy
    have hj2 : j < zs.length := by rw [List.length_take] at hj; omega
    have h0 := hcell 0 (by omega)
    have h := hcell j hj2
    obtain ⟨b, off, spot⟩ := x
    have hspot : spot = none := by simpa [Addr.add] using World.cell?_spot h0
    subst hspot
    refine ⟨b, off, rfl, ?_⟩
    rw [Kit.addr_add] at h
    rw [h, List.getElem_take]
    simp [hj2, inum]

end Cache
end Go.Proofs.Ytpkhafijmbgcnaa
