/- The plain law of a use, counted (chapter 21). -/
import Derived.Test.YtpkhafijmbgcnaaDLaw2
import Derived.Test.YtpkhafijmbgcnaaDOrder
namespace Go.Proofs.Ytpkhafijmbgcnaa
namespace Cache
set_option linter.unusedVariables false

theorem Small.lt {c : Sh} {m : Nat} (h : Small c m) (hm : m ≤ 100000) : c.clock < MaxC := by have := h.2.2.1; unfold MaxC; omega
theorem use_take {c : Sh} {m : Nat} (h : Small c m) (hm : m ≤ 100000) (b : Nat) (hb : b < 8) :
    (∃ s c', take c (b : Int) = (s, c', 0) ∧ Small c' (m + 1) ∧ c'.clock = c.clock + 1 ∧ c'.room = c.room ∧ ∃ r, order c' = (b : Int) :: r) ∨ (∃ s c', take c (b : Int) = (s, c', 5)) := by
  have hlt := h.lt hm
  cases hf : find (b : Int) c.held with
  | none => exact .inr ⟨_, _, take_none h.1 hf⟩
  | some x =>
    refine .inl ⟨_, _, take_eq h.1 hlt hf, ⟨take_right h.1 hlt hf _, h.2.1, by show c.clock + 1 ≤ _; have := h.2.2.1; omega, fun y hy => ?_⟩, rfl, rfl, _, take_order h.1 hlt hf _⟩
    rcases (mem_put _ _ h.1.2.2.2.2.2.2.1 y).1 hy with rfl | ⟨hy, _⟩
    · show (b : Int) < 8; omega
    · exact h.2.2.2 y hy
theorem use_keep {c : Sh} {m : Nat} (h : Small c m) (hm : m ≤ 100000) (b : Nat) (hb : b < 8) (t : ByteArray) :
    ∃ g c', keep c (b : Int) t = (g, c', 0) ∧ Small c' (m + 1) ∧ c'.clock = c.clock + 1 ∧ c'.room = c.room ∧ ∃ r, order c' = (b : Int) :: r := by
  have hlt := h.lt hm
  refine ⟨_, _, keep_eq h.1 hlt b (by omega) t, ⟨keep_right h.1 hlt b (by omega) t, h.2.1, by show c.clock + 1 ≤ _; have := h.2.2.1; omega, fun x hx => ?_⟩, rfl, rfl, _, keep_order h.1 hlt b (by omega) t⟩
  rcases (mem_put _ _ (h.1.2.2.2.2.2.2.1.drop _) x).1 hx with rfl | ⟨hx, _⟩
  · show (b : Int) < 8; omega
  · exact h.2.2.2 x (mem_drop.1 hx).1
theorem later_lt (l : List Hd) (x : Hd) (hx : x ∈ l) : later l x.st < l.length := by
  unfold later
  exact List.length_filter_lt_length_iff_exists.2 ⟨x, hx, by simp⟩
/-- By their stamps, as Order tells. -/
theorem order_later {c : Sh} (hc : Right c) (k : Nat) (hk : k < c.held.length) : (order c)[later c.held c.held[k].st]? = some c.held[k].blk := by
  have hlt := later_lt c.held c.held[k] (List.getElem_mem hk)
  have hlo : later c.held c.held[k].st < (ord c.held).length := by rw [ord_length]; exact hlt
  rw [order_of hc, List.getElem?_map, List.getElem?_eq_getElem hlo, ord_at c.held hc.2.2.2.2.2.2.2 c.held[k] (List.getElem_mem hk) _ rfl hlo]
  rfl
theorem held_rise {c : Sh} (hc : Right c) (k : Nat) (hk : k + 1 < c.held.length) : c.held[k].blk < c.held[k + 1].blk :=
  List.pairwise_iff_getElem.1 hc.2.2.2.2.2.2.1 k (k + 1) (by omega) hk (by omega)
end Cache
end Go.Proofs.Ytpkhafijmbgcnaa
