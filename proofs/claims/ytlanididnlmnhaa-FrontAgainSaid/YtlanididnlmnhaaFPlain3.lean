/- More plain laws of bytes told by how long ago they came (layer 5): what comes again is told by how many unlike bytes came between. No program in sight. -/
import Derived.Test.YtlanididnlmnhaaFPlain2
namespace Go.Proofs.Ytlanididnlmnhaa
namespace Front
set_option linter.unusedVariables false

/-- The unlike bytes of a text behind some. -/
def addTo (acc : T) (x : UInt8) : T := if x ∈ acc then acc else acc ++ [x]
def ded (acc r : T) : T := r.foldl addTo acc
theorem ded_snoc (acc r : T) (x : UInt8) : ded acc (r ++ [x]) = addTo (ded acc r) x := by unfold ded; rw [List.foldl_append]; rfl
theorem ded_append (acc r q : T) : ded acc (r ++ q) = ded (ded acc r) q := by unfold ded; rw [List.foldl_append]
theorem addTo_nodup {acc : T} (x : UInt8) (h : acc.Nodup) : (addTo acc x).Nodup := by
  unfold addTo
  split
  · exact h
  · rename_i hx
    exact (right_iff _).1 (by rw [right_snoc acc x h]; simp [hx])
theorem ded_nodup : ∀ (r acc : T), acc.Nodup → (ded acc r).Nodup
  | [], _, h => h
  | x :: r, acc, h => ded_nodup r (addTo acc x) (addTo_nodup x h)
theorem mem_addTo (acc : T) (x y : UInt8) : y ∈ addTo acc x ↔ y ∈ acc ∨ y = x := by
  unfold addTo
  split
  · rename_i h
    constructor
    · exact .inl
    · rintro (h1 | rfl)
      · exact h1
      · exact h
  · simp
theorem mem_ded : ∀ (r acc : T) (y : UInt8), y ∈ ded acc r ↔ y ∈ acc ∨ y ∈ r
  | [], acc, y => by simp [ded]
  | x :: r, acc, y => by
    show y ∈ ded (addTo acc x) r ↔ _
    rw [mem_ded r, mem_addTo, List.mem_cons, or_assoc]
theorem len_addTo (acc : T) (x : UInt8) : (addTo acc x).length ≤ acc.length + 1 := by unfold addTo; split <;> simp
theorem len_ded : ∀ (r acc : T), (ded acc r).length ≤ acc.length + r.length
  | [], acc => by simp [ded]
  | x :: r, acc => by
    show (ded (addTo acc x) r).length ≤ _
    have h1 := len_ded r (addTo acc x)
    have h2 := len_addTo acc x
    rw [List.length_cons]; omega
theorem addTo_prefix (acc : T) (x : UInt8) : acc <+: addTo acc x := by
  unfold addTo; split
  · exact List.prefix_refl _
  · exact List.prefix_append _ _
theorem ded_prefix : ∀ (r acc : T), acc <+: ded acc r
  | [], acc => List.prefix_refl _
  | x :: r, acc => (addTo_prefix acc x).trans (ded_prefix r (addTo acc x))
theorem addTo_filter (acc : T) (c x : UInt8) : ∀ a, a = acc.filter (· ≠ c) → addTo (c :: a) x = c :: (addTo acc x).filter (· ≠ c) := by
  intro a ha
  subst ha
  unfold addTo
  by_cases hx : x = c
  · subst hx
    rw [if_pos (by simp)]
    by_cases hm : x ∈ acc
    · rw [if_pos hm]
    · rw [if_neg hm, List.filter_append]; simp
  · by_cases hm : x ∈ acc
    · rw [if_pos (by simp [hm, hx]), if_pos hm]
    · rw [if_neg (by simp [hm, hx]), if_neg hm, List.filter_append]; simp [hx]
theorem ded_first : ∀ (r acc : T) (c : UInt8), ded (c :: acc.filter (· ≠ c)) r = c :: (ded acc r).filter (· ≠ c)
  | [], acc, c => rfl
  | x :: r, acc, c => by
    show ded (addTo (c :: acc.filter (· ≠ c)) x) r = c :: (ded (addTo acc x) r).filter (· ≠ c)
    rw [addTo_filter acc c x _ rfl, ded_first r (addTo acc x) c]
theorem ded_cons (r : T) (c : UInt8) : ded [] (c :: r) = c :: (ded [] r).filter (· ≠ c) := by
  have h := ded_first r [] c
  exact h
/-- The alphabet behind a text begins with the text's unlike bytes, the last ones first. -/
theorem fins_ded : ∀ (r a : T), ded [] r <+: fins a r.reverse
  | [], a => List.nil_prefix
  | c :: r, a => by
    obtain ⟨t, ht⟩ := fins_ded r a
    rw [List.reverse_cons, fins_snoc, ← ht, ded_cons]
    have hn := ded_nodup r [] List.nodup_nil
    unfold mtf
    by_cases hc : c ∈ ded [] r
    · rw [List.erase_append_left _ hc, hn.erase_eq_filter]
      refine ⟨t, ?_⟩
      rw [List.cons_append]
      congr 2
      exact List.filter_congr fun x _ => by rw [Bool.eq_iff_iff]; simp
    · rw [List.erase_append_right _ hc]
      refine ⟨t.erase c, ?_⟩
      rw [List.cons_append]
      congr 2
      rw [List.filter_eq_self]
      intro x hx
      have : ¬ x = c := by rintro rfl; exact hc hx
      simp [this]
theorem idxOf_ge (d t : T) (c : UInt8) (h : ¬ c ∈ d) : (d ++ t).idxOf c = d.length + t.idxOf c := by
  rw [List.idxOf_append, if_neg h]; omega

/-! ### What is told of byte i, when all from j on, back from i, are others -/
/-- What came between byte i and j: the unlike bytes from i - 1 down to j. -/
def btw (s : T) (i j : Nat) : T := ded [] ((s.take i).reverse.take (i - j))
theorem btw_start (s : T) (i : Nat) : btw s i i = [] := by unfold btw; rw [Nat.sub_self]; rfl
theorem btw_len (s : T) (i j : Nat) : (btw s i j).length ≤ i := by
  unfold btw
  have := len_ded ((s.take i).reverse.take (i - j)) []
  rw [List.length_take] at this
  simp at this
  omega
theorem rev_at (s : T) (i q : Nat) (hi : i ≤ s.length) (hq : q < i) : (s.take i).reverse.take (i - q) = (s.take i).reverse.take (i - (q + 1)) ++ [s[q]'(by omega)] := by
  have e : i - q = (i - (q + 1)) + 1 := by omega
  have hl : i - (q + 1) < (s.take i).reverse.length := by rw [List.length_reverse, List.length_take]; omega
  rw [e, List.take_succ_eq_append_getElem hl]
  congr 2
  rw [List.getElem_reverse, List.getElem_take]
  congr 1
  rw [List.length_take]; omega
theorem btw_step (s : T) (i q : Nat) (hi : i ≤ s.length) (hq : q < i) : btw s i q = addTo (btw s i (q + 1)) (s[q]'(by omega)) := by
  unfold btw
  rw [rev_at s i q hi hq, ded_snoc]
def others (s : T) (i j : Nat) (c : UInt8) : Prop := ¬ c ∈ (s.take i).reverse.take (i - j)
theorem others_start (s : T) (i : Nat) (c : UInt8) : others s i i c := by unfold others; rw [Nat.sub_self]; simp
theorem others_step (s : T) (i q : Nat) (c : UInt8) (hi : i ≤ s.length) (hq : q < i) (h : others s i (q + 1) c) (hc : ¬ s[q]'(by omega) = c) : others s i q c := by
  unfold others at *
  rw [rev_at s i q hi hq, List.mem_append, List.mem_singleton]
  rintro (h1 | h1)
  · exact h h1
  · exact hc h1.symm
/-- Byte q is the same, those between are others. -/
theorem told_again (a s : T) (i q : Nat) (c : UInt8) (hi : i ≤ s.length) (hq : q < i) (h : others s i (q + 1) c) (hc : s[q]'(by omega) = c) : (fins a (s.take i)).idxOf c = (btw s i (q + 1)).length := by
  obtain ⟨t, ht⟩ := fins_ded (s.take i).reverse a
  rw [List.reverse_reverse] at ht
  have h1 := rev_at s i q hi hq
  have h2 : (s.take i).reverse = ((s.take i).reverse.take (i - (q + 1)) ++ [c]) ++ (s.take i).reverse.drop (i - q) := by
    rw [← hc, ← h1, List.take_append_drop]
  have hno : ¬ c ∈ btw s i (q + 1) := by
    unfold btw
    rw [mem_ded]
    rintro (h3 | h3)
    · cases h3
    · exact h h3
  have h4 : (btw s i (q + 1)) ++ [c] <+: fins a (s.take i) := by
    have e : btw s i (q + 1) ++ [c] = ded [] ((s.take i).reverse.take (i - (q + 1)) ++ [c]) := by
      rw [ded_snoc]
      show _ = addTo (btw s i (q + 1)) c
      unfold addTo
      rw [if_neg hno]
    rw [e]
    refine List.IsPrefix.trans ?_ ⟨t, ht⟩
    conv => rhs; rw [h2, ded_append]
    exact ded_prefix _ _
  obtain ⟨u, hu⟩ := h4
  rw [← hu, List.append_assoc, idxOf_ge _ _ _ hno]
  simp
/-- None that came is the same. -/
theorem told_new (a s : T) (i : Nat) (c : UInt8) (h : others s i 0 c) (hi : i ≤ s.length) : (btw s i 0).length ≤ (fins a (s.take i)).idxOf c := by
  obtain ⟨t, ht⟩ := fins_ded (s.take i).reverse a
  rw [List.reverse_reverse] at ht
  have e : (s.take i).reverse.take (i - 0) = (s.take i).reverse := List.take_of_length_le (by rw [List.length_reverse, List.length_take]; omega)
  have hno : ¬ c ∈ ded [] (s.take i).reverse := by
    rw [mem_ded]
    rintro (h3 | h3)
    · cases h3
    · unfold others at h; rw [e] at h; exact h h3
  unfold btw
  rw [e, ← ht, idxOf_ge _ _ _ hno]
  omega
theorem plcs_at : ∀ (s a : T) (i : Nat) (hi : i < s.length), (plcs a s)[i]'(by rw [plcs_length]; exact hi) = (fins a (s.take i)).idxOf s[i]
  | c :: s, a, 0, _ => rfl
  | c :: s, a, i + 1, hi => by
    have := plcs_at s (mtf a c) i (by simpa using hi)
    simpa [plcs, fins] using this
end Front
end Go.Proofs.Ytlanididnlmnhaa
