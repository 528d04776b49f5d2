/- More plain laws of bytes told by how long ago they came (layer 5): other names; parts; an alphabet by itself. No program in sight. -/
import Derived.Test.YtlanididnlmnhaaFPlain
namespace Go.Proofs.Ytlanididnlmnhaa
namespace Front
set_option linter.unusedVariables false

/-! ### All bytes are turned into other ones -/
section
variable (g : UInt8 → UInt8) (hg : ∀ x y, g x = g y → x = y)
include hg
theorem erase_map (l : T) (c : UInt8) : (l.map g).erase (g c) = (l.erase c).map g := by
  induction l with
  | nil => rfl
  | cons x l ih =>
    by_cases h : x = c
    · subst h; simp
    · have h2 : ¬ g x = g c := fun e => h (hg _ _ e)
      rw [List.map_cons, List.erase_cons_tail (by simpa using h2), List.erase_cons_tail (by simpa using h), List.map_cons, ih]
theorem idxOf_map (l : T) (c : UInt8) : (l.map g).idxOf (g c) = l.idxOf c := by
  induction l with
  | nil => rfl
  | cons x l ih =>
    by_cases h : x = c
    · subst h; simp
    · have h2 : ¬ g x = g c := fun e => h (hg _ _ e)
      rw [List.map_cons, List.idxOf_cons, List.idxOf_cons]
      have e1 : (g x == g c) = false := by simpa using h2
      have e2 : (x == c) = false := by simpa using h
      rw [e1, e2, ih]
theorem mem_map_iff (l : T) (c : UInt8) : g c ∈ l.map g ↔ c ∈ l := by
  rw [List.mem_map]
  constructor
  · rintro ⟨x, hx, e⟩
    rwa [← hg _ _ e]
  · intro h; exact ⟨c, h, rfl⟩
theorem plcs_map : ∀ (s a : T), plcs (a.map g) (s.map g) = plcs a s
  | [], _ => rfl
  | c :: s, a => by
    rw [List.map_cons, plcs, plcs, idxOf_map g hg, ← plcs_map s (mtf a c)]
    unfold mtf
    rw [erase_map g hg, List.map_cons]
theorem all_map (a s : T) : all (a.map g) (s.map g) = all a s := by
  rw [Bool.eq_iff_iff, all_iff, all_iff]
  constructor
  · intro h c hc
    exact (mem_map_iff g hg a c).1 (h (g c) ((mem_map_iff g hg s c).2 hc))
  · intro h c hc
    obtain ⟨x, hx, rfl⟩ := List.mem_map.1 hc
    exact (mem_map_iff g hg a x).2 (h x hx)
theorem nodup_map (a : T) (h : a.Nodup) : (a.map g).Nodup := by
  rw [List.nodup_iff_pairwise_ne, List.pairwise_map] at *
  exact h.imp fun h e => h (hg _ _ e)
end
theorem xor_inj (t : UInt8) : ∀ x y : UInt8, x ^^^ t = y ^^^ t → x = y := by
  intro x y h
  have := congrArg (· ^^^ t) h
  simpa [UInt8.xor_assoc] using this

/-! ### Parts -/
theorem fins_take (a s : T) (k : Nat) (hk : 0 < k) (hl : k ≤ s.length) : ∃ r, fins a (s.take k) = s[k - 1]'(by omega) :: r := by
  obtain ⟨j, rfl⟩ : ∃ j, k = j + 1 := ⟨k - 1, by omega⟩
  rw [List.take_succ_eq_append_getElem (by omega), fins_snoc]
  exact ⟨_, rfl⟩
theorem all_append (a s t : T) : all a (s ++ t) = (all a s && all a t) := by unfold all; rw [List.all_append]
theorem all_fins (a s t : T) (h : all a s = true) : all (fins a s) t = all a t := by
  unfold all
  congr 1
  funext x
  have := fins_mem s a h x
  simp [this]

/-! ### An alphabet by itself -/
theorem idxOf_mid (p q : T) (c : UInt8) (h : ¬ c ∈ p) : (p ++ c :: q).idxOf c = p.length := by
  rw [List.idxOf_append, if_neg h, List.idxOf_cons_self]; omega
theorem mtf_mid (p q : T) (c : UInt8) (h : ¬ c ∈ p) : mtf (p ++ c :: q) c = c :: (p ++ q) := by
  unfold mtf
  rw [List.erase_append_right _ h, List.erase_cons_head]
/-- What came, the other way round, and what is still to come. -/
theorem self_one : ∀ (r p : T), (p.reverse ++ r).Nodup → plcs (p ++ r) r = List.range' p.length r.length ∧ fins (p ++ r) r = r.reverse ++ p
  | [], p, _ => ⟨rfl, by simp [fins]⟩
  | c :: r, p, h => by
    have hc : ¬ c ∈ p := by
      rw [List.nodup_append] at h
      intro hm
      exact h.2.2 c (by simpa using hm) c (by simp) rfl
    have hn : ((c :: p).reverse ++ r).Nodup := by simpa using h
    have ih := self_one r (c :: p) hn
    have e : mtf (p ++ c :: r) c = c :: p ++ r := mtf_mid p r c hc
    constructor
    · rw [plcs, idxOf_mid p r c hc, e, ih.1]
      simp [List.range'_succ]
    · show fins (mtf (p ++ c :: r) c) r = _
      rw [e, ih.2]; simp
/-- Told again: each is the last one. -/
theorem self_two : ∀ (r p : T), (p.reverse ++ r).Nodup → plcs (p ++ r.reverse) r = List.replicate r.length (p.length + r.length - 1)
  | [], p, _ => rfl
  | c :: r, p, h => by
    have hc : ¬ c ∈ p ++ r.reverse := by
      rw [List.nodup_append] at h
      intro hm
      rcases List.mem_append.1 hm with hm | hm
      · exact h.2.2 c (by simpa using hm) c (by simp) rfl
      · have := h.2.1
        rw [List.nodup_cons] at this
        exact this.1 (by simpa using hm)
    have hn : ((c :: p).reverse ++ r).Nodup := by simpa using h
    have ih := self_two r (c :: p) hn
    have e0 : p ++ (c :: r).reverse = (p ++ r.reverse) ++ c :: [] := by simp
    rw [plcs, e0, idxOf_mid _ _ _ hc, mtf_mid _ _ _ hc]
    have e1 : c :: (p ++ r.reverse ++ []) = c :: p ++ r.reverse := by simp
    rw [e1, ih]
    simp [List.replicate_succ]
theorem self_places (a : T) (h : a.Nodup) : plcs a a = List.range a.length ∧ fins a a = a.reverse := by
  have := self_one a [] (by simpa using h)
  simpa [List.range_eq_range'] using this
theorem self_again (a : T) (h : a.Nodup) : plcs a (a ++ a) = List.range a.length ++ List.replicate a.length (a.length - 1) := by
  rw [plcs_append, (self_places a h).1, (self_places a h).2]
  have := self_two a [] (by simpa using h)
  simp only [List.nil_append, List.length_nil, Nat.zero_add] at this
  rw [this]
end Front
end Go.Proofs.Ytlanididnlmnhaa
