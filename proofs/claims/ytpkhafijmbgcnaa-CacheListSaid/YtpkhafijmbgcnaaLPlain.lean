/- The plain law of a shelf and a plain list (chapter 21). -/
import Derived.Test.YtpkhafijmbgcnaaCPlainB
namespace Go.Proofs.Ytpkhafijmbgcnaa
namespace Cache
set_option linter.unusedVariables false

/-- A shelf, and the list and the texts that stand for it. -/
structure Listed (n m : Nat) (c : Sh) (l : List Int) (t : Nat → ByteArray) : Prop where
  s : Small c m
  room : c.room = (n : Int)
  order : Cache.order c = l
  txt : ∀ h ∈ c.held, ∀ b : Nat, h.blk = (b : Int) → h.txt = t b
theorem Listed.len {n m : Nat} {c : Sh} {l : List Int} {t : Nat → ByteArray} (h : Listed n m c l t) : l.length = c.held.length := by rw [← h.order, order_len h.s.1]
theorem Listed.le {n m : Nat} {c : Sh} {l : List Int} {t : Nat → ByteArray} (h : Listed n m c l t) : l.length ≤ n := by
  have h1 := h.len
  have h2 := h.s.1.2.2.2.2.1
  have h3 := h.room
  omega
theorem Listed.start (n : Nat) (h1 : 1 ≤ n) (h2 : n ≤ 6) (t : Nat → ByteArray) : Listed n 0 ⟨(n : Int), 0, []⟩ [] t := by
  have hs := Small.new (room := (n : Int)) (by omega) (by omega)
  refine ⟨hs, rfl, ?_, fun h hh => by cases hh⟩
  have := order_len hs.1
  exact List.eq_nil_of_length_eq_zero this
theorem Listed.take {n m : Nat} {c : Sh} {l : List Int} {t : Nat → ByteArray} (h : Listed n m c l t) (hm : m ≤ 100000) (b : Nat) (hb : b < 8) :
    ((b : Int) ∈ l ∧ ∃ c', Cache.take c (b : Int) = (t b, c', 0) ∧ Listed n (m + 1) c' ((b : Int) :: out (b : Int) l) t) ∨ ((b : Int) ∉ l ∧ ∃ s c', Cache.take c (b : Int) = (s, c', 5)) := by
  have hlt := h.s.lt hm
  have hmo := mem_order h.s.1 (b : Int)
  rw [h.order] at hmo
  cases hf : find (b : Int) c.held with
  | none =>
    refine .inr ⟨fun hh => ?_, _, _, take_none h.s.1 hf⟩
    obtain ⟨x, hx⟩ := hmo.1 hh
    rw [hf] at hx
    cases hx
  | some x =>
    obtain ⟨q1, q2⟩ := find_some hf
    have hx := h.txt x q1 b q2
    have hte := take_eq h.s.1 hlt hf
    rw [hx] at hte
    refine .inl ⟨hmo.2 ⟨x, hf⟩, _, hte, ⟨take_right h.s.1 hlt hf _, h.s.2.1, by show c.clock + 1 ≤ _; have := h.s.2.2.1; omega, fun y hy => ?_⟩, h.room, by rw [take_order h.s.1 hlt hf, h.order], fun y hy k hk => ?_⟩
    · rcases (mem_put _ _ h.s.1.2.2.2.2.2.2.1 y).1 hy with rfl | ⟨hy, _⟩
      · show (b : Int) < 8; omega
      · exact h.s.2.2.2 y hy
    · rcases (mem_put _ _ h.s.1.2.2.2.2.2.2.1 y).1 hy with rfl | ⟨hy, _⟩
      · have : (b : Int) = (k : Int) := hk
        have e : b = k := by omega
        subst e; rfl
      · exact h.txt y hy k hk
/-- What goes. -/
inductive Goes (n : Nat) (b : Int) (l : List Int) (g : Int) (r : List Int) : Prop
  | held (h : b ∈ l) (hg : g = -1) (hr : r = l)
  | room (h : b ∉ l) (hn : l.length < n) (hg : g = -1) (hr : r = l)
  | last (h : b ∉ l) (hn : l.length = n) (hg : l[n - 1]? = some g) (hr : r = l.take (n - 1))
theorem Listed.keep {n m : Nat} {c : Sh} {l : List Int} {t : Nat → ByteArray} (h : Listed n m c l t) (hm : m ≤ 100000) (b : Nat) (hb : b < 8) (x : ByteArray) :
    ∃ g c' r, Cache.keep c (b : Int) x = (g, c', 0) ∧ Goes n (b : Int) l g r ∧ Listed n (m + 1) c' ((b : Int) :: out (b : Int) r) (fun k => if k = b then x else t k) := by
  have hlt := h.s.lt hm
  have hmo := mem_order h.s.1 (b : Int)
  have ho := h.order
  have hle := h.le
  have hln := h.len
  have hro := h.room
  rw [ho] at hmo
  have hL : Listed n (m + 1) (after c (drop (goes c (b : Int)) c.held) (b : Int) x) ((b : Int) :: out (b : Int) (left (n : Int) (b : Int) l)) (fun k => if k = b then x else t k) := by
    refine ⟨⟨keep_right h.s.1 hlt b (by omega) x, h.s.2.1, by show c.clock + 1 ≤ _; have := h.s.2.2.1; omega, fun y hy => ?_⟩, h.room, by rw [keep_order h.s.1 hlt b (by omega) x, ho, hro], fun y hy k hk => ?_⟩
    · rcases (mem_put _ _ (h.s.1.2.2.2.2.2.2.1.drop _) y).1 hy with rfl | ⟨hy, _⟩
      · show (b : Int) < 8; omega
      · exact h.s.2.2.2 y (mem_drop.1 hy).1
    · rcases (mem_put _ _ (h.s.1.2.2.2.2.2.2.1.drop _) y).1 hy with rfl | ⟨hy, hne⟩
      · have : (b : Int) = (k : Int) := hk
        rw [if_pos (by omega)]
      · have hne' : y.blk ≠ (b : Int) := hne
        rw [if_neg (by omega)]
        exact h.txt y (mem_drop.1 hy).1 k hk
  refine ⟨_, _, left (n : Int) (b : Int) l, keep_eq h.s.1 hlt b (by omega) x, ?_, hL⟩
  by_cases hin : (b : Int) ∈ l
  · refine .held hin (goes_none (fun hh => ?_)) (by unfold left; rw [if_neg (fun hh => hh.1 hin)])
    obtain ⟨y, hy⟩ := hmo.1 hin
    rw [hh.1] at hy
    cases hy
  · by_cases hn : l.length = n
    · have hnone : find (b : Int) c.held = none := by
        cases hf : find (b : Int) c.held with
        | none => rfl
        | some y => exact absurd (hmo.2 ⟨y, hf⟩) hin
      obtain ⟨hne, hg⟩ := goes_last h.s.1 hnone (by omega)
      refine .last hin hn ?_ ?_
      · rw [hg]
        have : (Cache.order c).getLast hne = l.getLast (by rw [← ho]; exact hne) := by simp only [ho]
        rw [this, List.getLast_eq_getElem, ← hn, List.getElem?_eq_getElem (by
          have : l ≠ [] := by rw [← ho]; exact hne
          have := List.length_pos_iff.2 this
          omega)]
      · unfold left
        rw [if_pos ⟨hin, by omega⟩, List.dropLast_eq_take, hn]
    · refine .room hin (by omega) (goes_none (fun hh => ?_)) (by unfold left; rw [if_neg (fun hh => hn (by omega))])
      have := hh.2
      omega
theorem Listed.mono {n m m' : Nat} {c : Sh} {l : List Int} {t : Nat → ByteArray} (h : Listed n m c l t) (hm : m ≤ m') : Listed n m' c l t := ⟨h.s.mono hm, h.room, h.order, h.txt⟩
/-- Where a block stands, or below 0. -/
def AtAt (z b : Int) (l : List Int) : Prop := -1 ≤ z ∧ z ≤ 100 ∧ (0 ≤ z ↔ b ∈ l)
theorem take_next (l : List Int) (i : Nat) (x : Int) (hx : l[i]? = some x) : l.take (i + 1) = l.take i ++ [x] := by rw [List.take_add_one, hx]; rfl
theorem AtAt.hit {z b x : Int} {l : List Int} {i : Nat} (h : AtAt z b (l.take i)) (hx : l[i]? = some x) (e : x = b) (hi : i ≤ 100) : AtAt (i : Int) b (l.take (i + 1)) := by
  refine ⟨by omega, by omega, ?_⟩
  rw [take_next l i x hx, e]
  simp
theorem AtAt.miss {z b x : Int} {l : List Int} {i : Nat} (h : AtAt z b (l.take i)) (hx : l[i]? = some x) (e : ¬ x = b) : AtAt z b (l.take (i + 1)) := by
  refine ⟨h.1, h.2.1, ?_⟩
  rw [take_next l i x hx, h.2.2]
  simp [Ne.symm e]
theorem out_hit {b x : Int} {l : List Int} {i : Nat} (hx : l[i]? = some x) (e : x = b) : out b (l.take (i + 1)) = out b (l.take i) := by
  rw [take_next l i x hx, out, List.filter_append]
  simp [e, out]
theorem out_miss {b x : Int} {l : List Int} {i : Nat} (hx : l[i]? = some x) (e : ¬ x = b) : out b (l.take (i + 1)) = out b (l.take i) ++ [x] := by
  rw [take_next l i x hx, out, List.filter_append]
  simp [e, out]
theorem out_snoc (b : Int) (l : List Int) (x : Int) : out b (l ++ [x]) = out b l ++ if x = b then [] else [x] := by
  unfold out
  rw [List.filter_append]
  by_cases h : x = b <;> simp [h]
end Cache
end Go.Proofs.Ytpkhafijmbgcnaa
