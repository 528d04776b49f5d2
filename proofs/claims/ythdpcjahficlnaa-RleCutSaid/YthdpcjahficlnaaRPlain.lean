/- The plain laws of runs of one byte, told by a count (chapter 4): lists of bytes alone; no program in sight. -/
import Derived.Laws.BitsAllLaws
namespace Go.Proofs.Ythdpcjahficlnaa
namespace Rle
set_option linter.unusedVariables false

abbrev T := List UInt8

/-- How many of the first bytes, at most n, are c. -/
def lead (c : UInt8) : Nat → T → Nat
  | 0, _ => 0
  | _ + 1, [] => 0
  | n + 1, x :: r => if x = c then lead c n r + 1 else 0
/-- How many bytes a text's first piece has. -/
def run1 : T → Nat
  | [] => 0
  | x :: r => lead x 254 r + 1
theorem lead_le (c : UInt8) : ∀ (n : Nat) (r : T), lead c n r ≤ n ∧ lead c n r ≤ r.length
  | 0, r => by simp [lead]
  | n + 1, [] => by simp [lead]
  | n + 1, x :: r => by
    have := lead_le c n r
    rw [lead, List.length_cons]
    split <;> omega
theorem lead_take (c : UInt8) : ∀ (n : Nat) (r : T), r.take (lead c n r) = List.replicate (lead c n r) c
  | 0, r => by simp [lead]
  | n + 1, [] => by simp [lead]
  | n + 1, x :: r => by
    rw [lead]
    split
    · rename_i h
      rw [List.take_succ_cons, List.replicate_succ, lead_take c n r, h]
    · rfl
theorem lead_next (c : UInt8) : ∀ (n : Nat) (r : T), lead c n r < n → ∀ h : lead c n r < r.length, ¬ r[lead c n r] = c
  | 0, r, h1, _ => by simp [lead] at h1
  | n + 1, [], _, h => by simp at h
  | n + 1, x :: r, h1, h => by
    rw [lead] at h1
    by_cases hx : x = c
    · rw [if_pos hx] at h1
      have e : lead c (n + 1) (x :: r) = lead c n r + 1 := by rw [lead, if_pos hx]
      have h2 : lead c n r < r.length := by rw [e] at h; simpa using h
      have := lead_next c n r (by omega) h2
      simpa [e] using this
    · have e : lead c (n + 1) (x :: r) = 0 := by rw [lead, if_neg hx]
      simpa [e] using hx
theorem run1_cons (x : UInt8) (r : T) : run1 (x :: r) = lead x 254 r + 1 := rfl
theorem run1_pos (s : T) (h : s ≠ []) : 1 ≤ run1 s := by
  cases s with
  | nil => exact absurd rfl h
  | cons x r => rw [run1_cons]; omega
theorem run1_le (s : T) : run1 s ≤ s.length := by
  cases s with
  | nil => simp [run1]
  | cons x r => have := lead_le x 254 r; rw [run1_cons, List.length_cons]; omega
theorem run1_max (s : T) : run1 s ≤ 255 := by
  cases s with
  | nil => simp [run1]
  | cons x r => have := lead_le x 254 r; rw [run1_cons]; omega
theorem run1_take (x : UInt8) (r : T) : (x :: r).take (run1 (x :: r)) = List.replicate (run1 (x :: r)) x := by
  unfold run1
  rw [List.take_succ_cons, List.replicate_succ, lead_take]
theorem run1_next (x : UInt8) (r : T) (h1 : run1 (x :: r) < 255) (h : run1 (x :: r) < (x :: r).length) : ¬ (x :: r)[run1 (x :: r)] = x := by
  have e : run1 (x :: r) = lead x 254 r + 1 := rfl
  have h2 : lead x 254 r < r.length := by rw [e] at h; simpa using h
  have := lead_next x 254 r (by omega) h2
  simpa [e] using this
theorem lead_eq (c : UInt8) : ∀ (n : Nat) (r : T) (k : Nat), k ≤ n → (hk : k ≤ r.length) → r.take k = List.replicate k c → (k = n ∨ k = r.length ∨ ∃ h : k < r.length, ¬ r[k] = c) → lead c n r = k
  | 0, r, k, h1, _, _, _ => by rw [lead]; omega
  | n + 1, [], k, _, h2, _, _ => by rw [lead]; simp at h2; omega
  | n + 1, x :: r, 0, _, _, _, h4 => by
    rcases h4 with h4 | h4 | ⟨h4, h5⟩
    · omega
    · simp at h4
    · rw [lead, if_neg (by simpa using h5)]
  | n + 1, x :: r, k + 1, h1, h2, h3, h4 => by
    rw [List.take_succ_cons, List.replicate_succ, List.cons.injEq] at h3
    rw [lead, if_pos h3.1, lead_eq c n r k (by omega) (by simpa using h2) h3.2]
    rcases h4 with h4 | h4 | ⟨h4, h5⟩
    · exact .inl (by omega)
    · exact .inr (.inl (by simpa using h4))
    · exact .inr (.inr ⟨by simpa using h4, by simpa using h5⟩)
theorem run1_eq (x : UInt8) (r : T) (n : Nat) (h0 : 1 ≤ n) (h1 : n ≤ 255) (h2 : n ≤ (x :: r).length) (h3 : (x :: r).take n = List.replicate n x) (h4 : n = 255 ∨ n = (x :: r).length ∨ ∃ h : n < (x :: r).length, ¬ (x :: r)[n] = x) : run1 (x :: r) = n := by
  obtain ⟨k, rfl⟩ : ∃ k, n = k + 1 := ⟨n - 1, by omega⟩
  rw [run1_cons]
  rw [List.take_succ_cons, List.replicate_succ, List.cons.injEq] at h3
  rw [lead_eq x 254 r k (by omega) (by simpa using h2) h3.2]
  rcases h4 with h4 | h4 | ⟨h4, h5⟩
  · exact .inl (by omega)
  · exact .inr (.inl (by simpa using h4))
  · exact .inr (.inr ⟨by simpa using h4, by simpa using h5⟩)

/-- A text's pieces. -/
def pcs (s : T) : List T := if h : s = [] then [] else s.take (run1 s) :: pcs (s.drop (run1 s))
termination_by s.length
decreasing_by
  have h1 := run1_pos s h
  have h2 := List.length_pos_iff.2 h
  rw [List.length_drop]; omega
theorem pcs_nil : pcs [] = [] := by rw [pcs]; simp
theorem pcs_cons (s : T) (h : s ≠ []) : pcs s = s.take (run1 s) :: pcs (s.drop (run1 s)) := by rw [pcs]; rw [dif_neg h]
theorem text_ind {M : T → Prop} (h0 : M []) (h1 : ∀ s, s ≠ [] → M (s.drop (run1 s)) → M s) (s : T) : M s := by
  have key : ∀ n, ∀ s : T, s.length ≤ n → M s := by
    intro n
    induction n with
    | zero => intro s hs; rw [List.eq_nil_of_length_eq_zero (l := s) (by omega)]; exact h0
    | succ n ih =>
      intro s hs
      by_cases h : s = []
      · rw [h]; exact h0
      · refine h1 s h (ih _ ?_)
        have := run1_pos s h
        have := List.length_pos_iff.2 h
        rw [List.length_drop]; omega
  exact key s.length s (Nat.le_refl _)
theorem pcs_flat (s : T) : (pcs s).flatten = s := by
  refine text_ind (M := fun s => (pcs s).flatten = s) (by rw [pcs_nil]; rfl) (fun s h ih => ?_) s
  rw [pcs_cons s h, List.flatten_cons, ih, List.take_append_drop]

/-! ### What is packed -/
def pk1 (p : T) : T := if p.length < 4 then p else p.take 4 ++ [UInt8.ofNat (p.length - 4)]
def pack (s : T) : T := (pcs s).flatMap pk1
def plen (n : Nat) : Nat := if n < 4 then n else 5
def Len (s : T) : Nat := (pack s).length
def lens (l : List T) : Nat := (l.map fun p => plen p.length).sum
theorem pk1_length (p : T) : (pk1 p).length = plen p.length := by
  unfold pk1 plen
  split
  · rfl
  · rw [List.length_append, List.length_take]; simp; omega
theorem pack_nil : pack [] = [] := by unfold pack; rw [pcs_nil]; rfl
theorem pack_cons (s : T) (h : s ≠ []) : pack s = pk1 (s.take (run1 s)) ++ pack (s.drop (run1 s)) := by unfold pack; rw [pcs_cons s h, List.flatMap_cons]
theorem take_run (s : T) : (s.take (run1 s)).length = run1 s := by rw [List.length_take]; have := run1_le s; omega
theorem Len_nil : Len [] = 0 := by unfold Len; rw [pack_nil]; rfl
theorem Len_cons (s : T) (h : s ≠ []) : Len s = plen (run1 s) + Len (s.drop (run1 s)) := by
  unfold Len; rw [pack_cons s h, List.length_append, pk1_length, take_run]
theorem lens_append (l m : List T) : lens (l ++ m) = lens l + lens m := by unfold lens; simp
theorem lens_pcs (s : T) : lens (pcs s) = Len s := by
  refine text_ind (M := fun s => lens (pcs s) = Len s) (by rw [pcs_nil, Len_nil]; rfl) (fun s h ih => ?_) s
  rw [pcs_cons s h, Len_cons s h, ← ih]
  unfold lens
  rw [List.map_cons, List.sum_cons, take_run]
theorem plen_le (n : Nat) : plen n ≤ n + 1 := by unfold plen; split <;> omega
theorem plen_bounds (n : Nat) (h : 1 ≤ n) (h2 : n ≤ 255) : 4 * plen n ≤ 5 * n ∧ 5 * n ≤ 255 * plen n := by unfold plen; split <;> omega
theorem Len_bounds (s : T) : 4 * Len s ≤ 5 * s.length ∧ 5 * s.length ≤ 255 * Len s := by
  refine text_ind (M := fun s => 4 * Len s ≤ 5 * s.length ∧ 5 * s.length ≤ 255 * Len s) (by rw [Len_nil]; simp) (fun s h ih => ?_) s
  have h1 := plen_bounds (run1 s) (run1_pos s h) (run1_max s)
  have h2 := run1_le s
  rw [List.length_drop] at ih
  rw [Len_cons s h]
  omega
theorem pieces_bound (l : List T) (s : T) (h : l <+: pcs s) : lens l ≤ Len s ∧ (l.map List.length).sum ≤ s.length := by
  obtain ⟨m, hm⟩ := h
  constructor
  · rw [← lens_pcs s, ← hm, lens_append]; omega
  · have := congrArg List.length (pcs_flat s)
    rw [List.length_flatten, ← hm] at this
    simp at this
    omega

/-! ### What is unpacked -/
abbrev U := Nat × UInt8 × T
def ust (st : U) (c : UInt8) : U :=
  if st.1 = 4 then (0, st.2.1, st.2.2 ++ List.replicate c.toNat st.2.1)
  else if 0 < st.1 ∧ c = st.2.1 then (st.1 + 1, st.2.1, st.2.2 ++ [st.2.1])
  else (1, c, st.2.2 ++ [c])
def urun (s : T) : U := s.foldl ust (0, 0, [])
theorem urun_snoc (s : T) (c : UInt8) : urun (s ++ [c]) = ust (urun s) c := by unfold urun; rw [List.foldl_append]; rfl
def codeU (s : T) (most : Int) : Int := if (urun s).1 = 4 then 3 else if most < ((urun s).2.2.length : Int) then 4 else 0
def resU (s : T) (most : Int) : T := if codeU s most = 0 then (urun s).2.2 else []
theorem urun_first (r : Nat) (l b : UInt8) (o : T) (h4 : r < 4) (h : r = 0 ∨ ¬ l = b) : ust (r, l, o) b = (1, b, o ++ [b]) := by
  unfold ust
  rw [if_neg (by simp; omega), if_neg]
  rintro ⟨h1, h2⟩
  rcases h with h | h
  · simp at h1; omega
  · exact h h2.symm
theorem urun_more (b : UInt8) : ∀ (k r : Nat) (o : T), 0 < r → r + k ≤ 4 → (List.replicate k b).foldl ust (r, b, o) = (r + k, b, o ++ List.replicate k b)
  | 0, r, o, _, _ => by simp
  | k + 1, r, o, h1, h2 => by
    rw [List.replicate_succ, List.foldl_cons]
    have e : ust (r, b, o) b = (r + 1, b, o ++ [b]) := by
      unfold ust
      rw [if_neg (by simp; omega), if_pos ⟨h1, rfl⟩]
    rw [e, urun_more b k (r + 1) (o ++ [b]) (by omega) (by omega)]
    simp
    omega
theorem urun_some (b : UInt8) (n r : Nat) (l : UInt8) (o : T) (h1 : 1 ≤ n) (h2 : n ≤ 4) (h4 : r < 4) (h : r = 0 ∨ ¬ l = b) : (List.replicate n b).foldl ust (r, l, o) = (n, b, o ++ List.replicate n b) := by
  obtain ⟨k, rfl⟩ : ∃ k, n = k + 1 := ⟨n - 1, by omega⟩
  rw [List.replicate_succ, List.foldl_cons, urun_first r l b o h4 h, urun_more b k 1 _ (by omega) (by omega)]
  simp
  omega
theorem unp_pack (s : T) : ∀ (r : Nat) (l : UInt8) (o : T), r < 4 → (r = 0 ∨ ∀ c, s.head? = some c → ¬ l = c) → ∃ r' l', r' < 4 ∧ (pack s).foldl ust (r, l, o) = (r', l', o ++ s) := by
  refine text_ind (M := fun s => ∀ (r : Nat) (l : UInt8) (o : T), r < 4 → (r = 0 ∨ ∀ c, s.head? = some c → ¬ l = c) → ∃ r' l', r' < 4 ∧ (pack s).foldl ust (r, l, o) = (r', l', o ++ s)) ?_ (fun s h ih => ?_) s
  · intro r l o h4 _
    exact ⟨r, l, h4, by rw [pack_nil]; simp⟩
  · intro r l o h4 hh
    obtain ⟨x, t, rfl⟩ : ∃ x t, s = x :: t := by
      cases s with
      | nil => exact absurd rfl h
      | cons x t => exact ⟨x, t, rfl⟩
    have hh2 : r = 0 ∨ ¬ l = x := by
      rcases hh with hh | hh
      · exact .inl hh
      · exact .inr (hh x rfl)
    have h1 := run1_pos (x :: t) h
    have h2 := run1_max (x :: t)
    have h3 := run1_le (x :: t)
    have ht := run1_take x t
    rw [pack_cons _ h, List.foldl_append, ht]
    have hs : x :: t = List.replicate (run1 (x :: t)) x ++ (x :: t).drop (run1 (x :: t)) := by rw [← ht, List.take_append_drop]
    generalize hn : run1 (x :: t) = n at *
    by_cases hl : n < 4
    · have e : pk1 (List.replicate n x) = List.replicate n x := by unfold pk1; rw [if_pos (by simpa using hl)]
      rw [e, urun_some x n r l o h1 (by omega) h4 hh2]
      obtain ⟨r', l', hr', hx⟩ := ih n x (o ++ List.replicate n x) hl (.inr (fun c hc => by
        rw [List.head?_drop] at hc
        obtain ⟨hlt, hc2⟩ := List.getElem?_eq_some_iff.1 hc
        have := run1_next x t (by omega) (by rw [hn]; exact hlt)
        simp only [hn] at this
        rw [hc2] at this
        exact fun e => this e.symm))
      refine ⟨r', l', hr', ?_⟩
      rw [hx, List.append_assoc, ← hs]
    · have e : pk1 (List.replicate n x) = List.replicate 4 x ++ [UInt8.ofNat (n - 4)] := by
        unfold pk1
        rw [if_neg (by simpa using hl), List.take_replicate, List.length_replicate, Nat.min_eq_left (by omega)]
      rw [e, List.foldl_append, urun_some x 4 r l o (by omega) (by omega) h4 hh2]
      have e2 : List.foldl ust (4, x, o ++ List.replicate 4 x) [UInt8.ofNat (n - 4)] = (0, x, o ++ List.replicate n x) := by
        rw [List.foldl_cons, List.foldl_nil]
        unfold ust
        rw [if_pos rfl]
        have e3 : (UInt8.ofNat (n - 4)).toNat = n - 4 := by rw [UInt8.toNat_ofNat']; omega
        rw [e3]
        simp only [List.append_assoc, List.replicate_append_replicate]
        rw [show 4 + (n - 4) = n from by omega]
      rw [e2]
      obtain ⟨r', l', hr', hx⟩ := ih 0 x (o ++ List.replicate n x) (by omega) (.inl rfl)
      refine ⟨r', l', hr', ?_⟩
      rw [hx, List.append_assoc, ← hs]
theorem urun_pack (s : T) : (urun (pack s)).1 < 4 ∧ (urun (pack s)).2.2 = s := by
  obtain ⟨r, l, h1, h2⟩ := unp_pack s 0 0 [] (by omega) (.inl rfl)
  unfold urun
  rw [h2]
  exact ⟨h1, rfl⟩
theorem code_pack (s : T) (most : Int) (h : (s.length : Int) ≤ most) : codeU (pack s) most = 0 := by
  obtain ⟨h1, h2⟩ := urun_pack s
  unfold codeU
  rw [if_neg (by omega), h2, if_neg (by omega)]
theorem res_pack (s : T) (most : Int) (h : (s.length : Int) ≤ most) : resU (pack s) most = s := by
  unfold resU
  rw [if_pos (code_pack s most h), (urun_pack s).2]
theorem code_pack_long (s : T) (most : Int) (h : most < (s.length : Int)) : codeU (pack s) most = 4 := by
  obtain ⟨h1, h2⟩ := urun_pack s
  unfold codeU
  rw [if_neg (by omega), h2, if_pos h]
theorem pack_inj (s t : T) (h : pack s = pack t) : s = t := by
  have := (urun_pack s).2
  rw [h, (urun_pack t).2] at this
  exact this.symm
theorem ust_bounds (st : U) (c : UInt8) (i : Nat) (h4 : st.1 ≤ 4) (h1 : 5 * st.2.2.length + 254 * st.1 ≤ 259 * i) (h2 : 4 * i + st.1 ≤ 5 * st.2.2.length) :
    (ust st c).1 ≤ 4 ∧ 5 * (ust st c).2.2.length + 254 * (ust st c).1 ≤ 259 * (i + 1) ∧ 4 * (i + 1) + (ust st c).1 ≤ 5 * (ust st c).2.2.length := by
  have hc := c.toNat_lt
  unfold ust
  split
  · rename_i h
    simp only [List.length_append, List.length_replicate]
    omega
  · split
    · simp only [List.length_append, List.length_singleton]
      omega
    · simp only [List.length_append, List.length_singleton]
      omega
theorem urun_bounds (s : T) : (urun s).1 ≤ 4 ∧ 5 * (urun s).2.2.length + 254 * (urun s).1 ≤ 259 * s.length ∧ 4 * s.length + (urun s).1 ≤ 5 * (urun s).2.2.length := by
  have key : ∀ (s : T) (st : U) (i : Nat), st.1 ≤ 4 → 5 * st.2.2.length + 254 * st.1 ≤ 259 * i → 4 * i + st.1 ≤ 5 * st.2.2.length →
      (s.foldl ust st).1 ≤ 4 ∧ 5 * (s.foldl ust st).2.2.length + 254 * (s.foldl ust st).1 ≤ 259 * (i + s.length) ∧ 4 * (i + s.length) + (s.foldl ust st).1 ≤ 5 * (s.foldl ust st).2.2.length := by
    intro s
    induction s with
    | nil => intro st i h1 h2 h3; exact ⟨h1, by simpa using h2, by simpa using h3⟩
    | cons c s ih =>
      intro st i h1 h2 h3
      obtain ⟨k1, k2, k3⟩ := ust_bounds st c i h1 h2 h3
      have := ih (ust st c) (i + 1) k1 k2 k3
      rw [List.foldl_cons, List.length_cons, show i + (s.length + 1) = i + 1 + s.length from by omega]
      exact this
  have := key s (0, 0, []) 0 (by simp) (by simp) (by simp)
  simpa [urun] using this

/-! ### What has room -/
def cut (s : T) (room : Int) : Nat :=
  if h : s = [] then 0
  else if (plen (run1 s) : Int) ≤ room then run1 s + cut (s.drop (run1 s)) (room - plen (run1 s))
  else min (min (max room 0).toNat 3) (run1 s)
termination_by s.length
decreasing_by
  have h1 := run1_pos s h
  have h2 := List.length_pos_iff.2 h
  rw [List.length_drop]; omega
theorem cut_nil (room : Int) : cut [] room = 0 := by rw [cut]; simp
theorem cut_fits (s : T) (room : Int) (h : s ≠ []) (hr : (plen (run1 s) : Int) ≤ room) : cut s room = run1 s + cut (s.drop (run1 s)) (room - plen (run1 s)) := by rw [cut]; rw [dif_neg h, if_pos hr]
theorem cut_stops (s : T) (room : Int) (h : s ≠ []) (hr : ¬ (plen (run1 s) : Int) ≤ room) : cut s room = min (min (max room 0).toNat 3) (run1 s) := by rw [cut]; rw [dif_neg h, if_neg hr]
theorem run1_rep (x : UInt8) (k : Nat) (h1 : 1 ≤ k) (h2 : k ≤ 255) : run1 (List.replicate k x) = k := by
  obtain ⟨j, rfl⟩ : ∃ j, k = j + 1 := ⟨k - 1, by omega⟩
  rw [List.replicate_succ]
  refine run1_eq x _ (j + 1) h1 h2 (by simp) ?_ (.inr (.inl (by simp)))
  rw [← List.replicate_succ, List.take_replicate, Nat.min_self]
theorem Len_rep (x : UInt8) (k : Nat) (h2 : k ≤ 255) : Len (List.replicate k x) = plen k := by
  by_cases h : k = 0
  · subst h; rw [List.replicate_zero, Len_nil]; rfl
  · have hne : List.replicate k x ≠ [] := by intro e; have := congrArg List.length e; simp at this; omega
    rw [Len_cons _ hne, run1_rep x k (by omega) h2]
    simp [Len_nil]
theorem Len_take_first (s : T) (k : Nat) (hk : k ≤ run1 s) : Len (s.take k) = plen k := by
  cases s with
  | nil => simp [run1] at hk; subst hk; simp [Len_nil, plen]
  | cons x r =>
    have e : (x :: r).take k = List.replicate k x := by
      have := congrArg (List.take k) (run1_take x r)
      rw [List.take_take, List.take_replicate, Nat.min_eq_left hk] at this
      exact this
    rw [e]
    exact Len_rep x k (by have := run1_max (x :: r); omega)
theorem run1_of_take (s : T) (k : Nat) (hs : s ≠ []) (hk : run1 s ≤ k) : run1 (s.take k) = run1 s := by
  cases s with
  | nil => exact absurd rfl hs
  | cons x r =>
    have h1 := run1_pos (x :: r) hs
    have h2 := run1_le (x :: r)
    obtain ⟨j, rfl⟩ : ∃ j, k = j + 1 := ⟨k - 1, by omega⟩
    rw [List.take_succ_cons]
    have e : (x :: r.take j) = (x :: r).take (j + 1) := by rw [List.take_succ_cons]
    refine run1_eq x (r.take j) _ h1 (run1_max _) ?_ ?_ ?_
    · rw [e, List.length_take]; omega
    · rw [e, List.take_take, Nat.min_eq_left (by omega)]; exact run1_take x r
    · by_cases h3 : run1 (x :: r) = 255
      · exact .inl h3
      · by_cases h4 : run1 (x :: r) = (x :: r.take j).length
        · exact .inr (.inl h4)
        · have h5 : run1 (x :: r) < (x :: r.take j).length := by
            rw [e, List.length_take] at h4 ⊢; omega
          refine .inr (.inr ⟨h5, ?_⟩)
          have h6 := run1_next x r (by have := run1_max (x :: r); omega) (by rw [e, List.length_take] at h5; omega)
          have e2 : (x :: r.take j)[run1 (x :: r)] = (x :: r)[run1 (x :: r)]'(by rw [e, List.length_take] at h5; omega) := by
            simp only [e, List.getElem_take]
          rw [e2]; exact h6
theorem Len_take_more (s : T) (k : Nat) (hs : s ≠ []) (hk : run1 s ≤ k) : Len (s.take k) = plen (run1 s) + Len ((s.drop (run1 s)).take (k - run1 s)) := by
  have h1 := run1_pos s hs
  have hne : s.take k ≠ [] := by
    intro e
    have := congrArg List.length e
    have h2 := run1_le s
    have h3 := List.length_pos_iff.2 hs
    rw [List.length_take] at this; simp only [List.length_nil] at this; omega
  rw [Len_cons _ hne, run1_of_take s k hs hk, List.drop_take]
theorem cut_spec (s : T) : ∀ room : Int, 0 ≤ room → cut s room ≤ s.length ∧ (Len (s.take (cut s room)) : Int) ≤ room ∧ (cut s room < s.length → room < (Len (s.take (cut s room + 1)) : Int)) := by
  refine text_ind (M := fun s => ∀ room : Int, 0 ≤ room → cut s room ≤ s.length ∧ (Len (s.take (cut s room)) : Int) ≤ room ∧ (cut s room < s.length → room < (Len (s.take (cut s room + 1)) : Int))) ?_ (fun s h ih => ?_) s
  · intro room h0
    rw [cut_nil]
    simp [Len_nil, h0]
  · intro room h0
    have h1 := run1_pos s h
    have h2 := run1_le s
    by_cases hr : (plen (run1 s) : Int) ≤ room
    · rw [cut_fits s room h hr]
      obtain ⟨i1, i2, i3⟩ := ih (room - plen (run1 s)) (by omega)
      generalize cut (s.drop (run1 s)) (room - plen (run1 s)) = k at *
      rw [List.length_drop] at i1 i3
      refine ⟨by omega, ?_, fun hlt => ?_⟩
      · rw [Len_take_more s _ h (by omega), show run1 s + k - run1 s = k from by omega]; omega
      · rw [Len_take_more s _ h (by omega), show run1 s + k + 1 - run1 s = k + 1 from by omega]
        have := i3 (by omega)
        omega
    · rw [cut_stops s room h hr]
      have hmin : min (min (max room 0).toNat 3) (run1 s) ≤ run1 s := Nat.min_le_right _ _
      refine ⟨by omega, ?_, fun hlt => ?_⟩
      · rw [Len_take_first s _ hmin]
        unfold plen at *
        split <;> split at hr <;> omega
      · rw [Len_take_first s _ (by unfold plen at hr; split at hr <;> omega)]
        unfold plen at *
        split <;> split at hr <;> omega
theorem plen_pos (n : Nat) (h : 1 ≤ n) : 1 ≤ plen n := by unfold plen; split <;> omega
theorem cut_none (s : T) (room : Int) (h : room ≤ 0) : cut s room = 0 := by
  by_cases hs : s = []
  · rw [hs, cut_nil]
  · have := plen_pos _ (run1_pos s hs)
    rw [cut_stops s room hs (by omega), show (max room 0).toNat = 0 from by omega]
    simp
theorem cut_all (s : T) : ∀ room : Int, (Len s : Int) ≤ room → cut s room = s.length := by
  refine text_ind (M := fun s => ∀ room : Int, (Len s : Int) ≤ room → cut s room = s.length) (fun room _ => by rw [cut_nil]; rfl) (fun s h ih => ?_) s
  intro room hr
  rw [Len_cons s h] at hr
  have := run1_le s
  rw [cut_fits s room h (by omega), ih _ (by omega), List.length_drop]
  omega
theorem cut_pos (s : T) (room : Int) (hs : s ≠ []) (h : 1 ≤ room) : 1 ≤ cut s room := by
  have h1 := run1_pos s hs
  by_cases hr : (plen (run1 s) : Int) ≤ room
  · rw [cut_fits s room hs hr]; omega
  · rw [cut_stops s room hs hr]; omega
theorem cut_mono (s : T) : ∀ room : Int, cut s room ≤ cut s (room + 1) := by
  refine text_ind (M := fun s => ∀ room : Int, cut s room ≤ cut s (room + 1)) (fun room => by rw [cut_nil, cut_nil]; exact Nat.le_refl _) (fun s h ih => ?_) s
  intro room
  by_cases hr : (plen (run1 s) : Int) ≤ room
  · rw [cut_fits s room h hr, cut_fits s (room + 1) h (by omega), show room + 1 - (plen (run1 s) : Int) = room - plen (run1 s) + 1 from by omega]
    have := ih (room - plen (run1 s))
    omega
  · rw [cut_stops s room h hr]
    by_cases hr2 : (plen (run1 s) : Int) ≤ room + 1
    · rw [cut_fits s (room + 1) h hr2]; omega
    · rw [cut_stops s (room + 1) h hr2]; omega
theorem cut_le (s : T) (room : Int) : cut s room ≤ s.length := by
  by_cases h : 0 ≤ room
  · exact (cut_spec s room h).1
  · rw [cut_none s room (by omega)]; exact Nat.zero_le _

/-! ### One byte over and over -/
def want (k : Nat) : Nat := 5 * (k / 255) + plen (k % 255)
theorem Len_one (c : UInt8) : ∀ k, Len (List.replicate k c) = want k := by
  intro k
  induction k using Nat.strongRecOn with
  | _ k ih =>
    by_cases h : k < 255
    · rw [Len_rep c k (by omega)]
      unfold want
      rw [Nat.div_eq_of_lt h, Nat.mod_eq_of_lt h]; omega
    · have hne : List.replicate k c ≠ [] := by intro e; have := congrArg List.length e; simp at this; omega
      have e1 : run1 (List.replicate k c) = 255 := by
        obtain ⟨j, rfl⟩ : ∃ j, k = j + 1 := ⟨k - 1, by omega⟩
        rw [List.replicate_succ]
        refine run1_eq c _ 255 (by omega) (by omega) (by simp; omega) ?_ (.inl rfl)
        rw [← List.replicate_succ, List.take_replicate, Nat.min_eq_left (by omega)]
      rw [Len_cons _ hne, e1, List.drop_replicate, ih (k - 255) (by omega)]
      have e2 : k / 255 = (k - 255) / 255 + 1 := by omega
      have e3 : k % 255 = (k - 255) % 255 := by omega
      unfold want
      rw [e2, e3]
      show 5 + _ = _
      omega
end Rle
end Go.Proofs.Ythdpcjahficlnaa
