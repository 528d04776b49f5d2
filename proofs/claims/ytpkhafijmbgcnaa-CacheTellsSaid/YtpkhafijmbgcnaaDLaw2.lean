/- Raw shelves, laid open (chapter 21's law texts). -/
import Derived.Test.YtpkhafijmbgcnaaDLaw1
namespace Go.Proofs.Ytpkhafijmbgcnaa
namespace Cache
open Go.RowKit Go.Shelf
set_option linter.unusedVariables false

theorem pairs_below {k : IntKind} {w w' : World} {a : Option Addr} {len cap : Nat} {g : Nat → Int × Int} (h : Kit.IsPairs k w a len cap g) (hb : Below w.heap.size w w') : Kit.IsPairs k w' a len cap g := by
  refine ⟨h.1, h.2.1, fun i hi => ?_⟩
  obtain ⟨b, off, ha, h0, h1, k0, k1⟩ := h.2.2 i hi
  exact ⟨b, off, ha, by rw [hb.cell (p := ⟨b, off + i * 2, none⟩) (block_lt_of_cell h0)]; exact h0, by rw [hb.cell (p := ⟨b, off + i * 2 + 1, none⟩) (block_lt_of_cell h1)]; exact h1, k0, k1⟩
theorem Shelf_lit (room : Int) (a : Option Addr) (len cap : Nat) (g : Nat → Int × Int) (h1 : -9223372036854775808 ≤ room) (h2 : room ≤ 9223372036854775807) (w : World) (h : Kit.IsPairs .i64 w a len cap g) :
    Calls Try.prog 14 #[.int .i64 room, .slice a len cap] w fun e w' => ∃ c a' k', e = .returned (.agg #[.int .i64 c.room, .int .i64 c.clock, .slice a' c.held.length k']) ∧ ShW w' c a' k' ∧ Small c 30 ∧ Below w.heap.size w w' :=
  Shelf_any room a len cap g h1 h2 w h
end Cache
end Go.Proofs.Ytpkhafijmbgcnaa
