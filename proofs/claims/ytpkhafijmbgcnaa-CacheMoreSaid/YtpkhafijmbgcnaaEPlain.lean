/- The plain law of two shelves, one with more room (chapter 21). -/
import Derived.Test.YtpkhafijmbgcnaaDPlain
namespace Go.Proofs.Ytpkhafijmbgcnaa
namespace Cache
set_option linter.unusedVariables false

/-- What the two shelves are to each other, behind j uses. -/
structure More (n m j : Nat) (a b : Sh) : Prop where
  ra : Right a
  rb : Right b
  roomA : a.room = 1 + (n : Int)
  roomB : b.room = 1 + (n : Int) + (m : Int)
  clockA : a.clock ≤ j
  clockB : b.clock ≤ j
  pre : order a <+: order b
theorem prefix_out {p q : List Int} (h : p <+: q) (b : Int) : out b p <+: out b q := by
  obtain ⟨r, rfl⟩ := h
  unfold out
  rw [List.filter_append]
  exact List.prefix_append _ _
theorem prefix_cons {p q : List Int} (h : p <+: q) (b : Int) : b :: p <+: b :: q := by
  obtain ⟨r, rfl⟩ := h
  exact ⟨r, rfl⟩
theorem dropLast_prefix (p : List Int) : p.dropLast <+: p := List.dropLast_prefix p
theorem prefix_left {p q : List Int} {n m : Int} {k : Int} (h : p <+: q) (hn : (p.length : Int) ≤ n) (hnm : n ≤ m) (hk : k ∉ q) : left n k p <+: left m k q := by
  have hkp : k ∉ p := fun hm => hk (h.subset hm)
  have lp : ∀ (l : List Int) (m : Int), k ∉ l → (l.length : Int) = m → left m k l = l.dropLast := fun l m h1 h2 => by unfold left; rw [if_pos ⟨h1, h2⟩]
  have ln : ∀ (l : List Int) (m : Int), ¬ (l.length : Int) = m → left m k l = l := fun l m h2 => by unfold left; rw [if_neg (fun hh => h2 hh.2)]
  by_cases h1 : (q.length : Int) = m
  · rw [lp q m hk h1]
    by_cases h2 : (p.length : Int) = n
    · rw [lp p n hkp h2]
      obtain ⟨r, rfl⟩ := h
      rcases r.eq_nil_or_concat with rfl | ⟨r', x, rfl⟩
      · rw [List.append_nil]; exact List.prefix_refl _
      · rw [List.concat_eq_append, ← List.append_assoc, List.dropLast_concat]
        exact (dropLast_prefix p).trans (List.prefix_append _ _)
    · rw [ln p n h2]
      obtain ⟨r, rfl⟩ := h
      rcases r.eq_nil_or_concat with rfl | ⟨r', x, rfl⟩
      · rw [List.append_nil] at h1
        omega
      · rw [List.concat_eq_append, ← List.append_assoc, List.dropLast_concat]
        exact List.prefix_append _ _
  · rw [ln q m h1]
    by_cases h2 : (p.length : Int) = n
    · rw [lp p n hkp h2]
      exact (dropLast_prefix p).trans h
    · rw [ln p n h2]
      exact h
theorem prefix_left_out {p q : List Int} {n : Int} {k : Int} (h : p <+: q) (hk : k ∉ p) : out k (left n k p) <+: out k q := by
  refine prefix_out ?_ k
  unfold left
  split
  · exact (dropLast_prefix p).trans h
  · exact h
theorem More.start (n m : Nat) (hn : n < 6) (hm : m < 6) : More n m 0 ⟨1 + (n : Int), 0, []⟩ ⟨1 + (n : Int) + (m : Int), 0, []⟩ := by
  have hr : ∀ room : Int, 1 ≤ room → room ≤ 64 → Right ⟨room, 0, []⟩ := fun room h1 h2 => by
    unfold Right Good Rise Apart MaxC
    simp
    omega
  refine ⟨hr _ (by omega) (by omega), hr _ (by omega) (by omega), rfl, rfl, Int.le_refl _, Int.le_refl _, ?_⟩
  rw [order_of (hr _ (by omega) (by omega)), order_of (hr _ (by omega) (by omega))]
  exact List.prefix_refl _
/-- The three ways of a use. -/
inductive Way (a b a' b' : Sh) (k : Int) (t : ByteArray) : Prop
  | both (s s' : ByteArray) (h1 : take a k = (s, a', 0)) (h2 : take b k = (s', b', 0))
  | one (s s' : ByteArray) (z : Sh) (g : Int) (h1 : take a k = (s, z, 5)) (h2 : take b k = (s', b', 0)) (h3 : keep a k t = (g, a', 0))
  | none (s s' : ByteArray) (z z' : Sh) (g g' : Int) (h1 : take a k = (s, z, 5)) (h2 : take b k = (s', z', 5)) (h3 : keep a k t = (g, a', 0)) (h4 : keep b k t = (g', b', 0))
theorem More.step {n m j : Nat} {a b : Sh} (h : More n m j a b) (hn : n < 6) (hm : m < 6) (hj : j ≤ 1000) (k : Int) (hk : 0 ≤ k) (t : ByteArray) :
    ∃ a' b', Way a b a' b' k t ∧ More n m (j + 1) a' b' ∧ (∃ r, order a' = k :: r) := by
  obtain ⟨ra, rb, roomA, roomB, clockA, clockB, pre⟩ := h
  have la : a.clock < MaxC := by unfold MaxC; omega
  have lb : b.clock < MaxC := by unfold MaxC; omega
  cases hfa : find k a.held with
  | some x =>
    have hka : k ∈ order a := (mem_order ra k).2 ⟨x, hfa⟩
    obtain ⟨y, hfb⟩ := (mem_order rb k).1 (pre.subset hka)
    have oa := take_order ra la hfa x.txt
    have ob := take_order rb lb hfb y.txt
    refine ⟨_, _, .both _ _ (take_eq ra la hfa) (take_eq rb lb hfb), ⟨take_right ra la hfa _, take_right rb lb hfb _, roomA, roomB, ?_, ?_, ?_⟩, _, oa⟩
    · show a.clock + 1 ≤ _; omega
    · show b.clock + 1 ≤ _; omega
    · rw [oa, ob]; exact prefix_cons (prefix_out pre k) k
  | none =>
    have hka : k ∉ order a := fun hm => by obtain ⟨x, hx⟩ := (mem_order ra k).1 hm; rw [hfa] at hx; cases hx
    have oa := keep_order ra la k hk t
    cases hfb : find k b.held with
    | some y =>
      have ob := take_order rb lb hfb y.txt
      refine ⟨_, _, .one _ _ _ _ (take_none ra hfa) (take_eq rb lb hfb) (keep_eq ra la k hk t), ⟨keep_right ra la k hk t, take_right rb lb hfb _, roomA, roomB, ?_, ?_, ?_⟩, _, oa⟩
      · show a.clock + 1 ≤ _; omega
      · show b.clock + 1 ≤ _; omega
      · rw [oa, ob]; exact prefix_cons (prefix_left_out pre hka) k
    | none =>
      have hkb : k ∉ order b := fun hm => by obtain ⟨x, hx⟩ := (mem_order rb k).1 hm; rw [hfb] at hx; cases hx
      have ob := keep_order rb lb k hk t
      refine ⟨_, _, .none _ _ _ _ _ _ (take_none ra hfa) (take_none rb hfb) (keep_eq ra la k hk t) (keep_eq rb lb k hk t), ⟨keep_right ra la k hk t, keep_right rb lb k hk t, roomA, roomB, ?_, ?_, ?_⟩, _, oa⟩
      · show a.clock + 1 ≤ _; omega
      · show b.clock + 1 ≤ _; omega
      · rw [oa, ob]
        refine prefix_cons (prefix_out (prefix_left pre ?_ ?_ hkb) k) k
        · rw [order_len ra]; exact ra.2.2.2.2.1
        · omega
end Cache
end Go.Proofs.Ytpkhafijmbgcnaa
