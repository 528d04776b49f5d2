/- The plain laws of bytes told by how long ago they came (layer 5): lists of bytes alone; no program in sight. -/
import Derived.Laws.BitsAllLaws
namespace Go.Proofs.Ytlanididnlmnhaa
namespace Front
set_option linter.unusedVariables false

abbrev T := List UInt8

/-- No byte is there twice. -/
def right (l : T) : Bool := decide l.Nodup
/-- A byte is brought to the front; the byte at a place is. -/
def mtf (l : T) (c : UInt8) : T := c :: l.erase c
def bring (l : T) (k : Nat) : T := l.getD k 0 :: l.eraseIdx k
/-- The alphabet behind a text; the places that are told of it. -/
def fins (a s : T) : T := s.foldl mtf a
def plcs : T → T → List Nat
  | _, [] => []
  | a, c :: s => a.idxOf c :: plcs (mtf a c) s
def all (a s : T) : Bool := s.all fun c => decide (c ∈ a)
/-- The bytes of places, and the alphabet behind. -/
def unp : T → List Nat → T
  | _, [] => []
  | a, k :: l => a.getD k 0 :: unp (bring a k) l
def unf (a : T) (l : List Nat) : T := l.foldl bring a

theorem right_iff (l : T) : right l = true ↔ l.Nodup := by simp [right]
theorem right_snoc (l : T) (c : UInt8) (h : l.Nodup) : right (l ++ [c]) = !decide (c ∈ l) := by
  rw [Bool.eq_iff_iff, right_iff]
  rw [List.nodup_append]
  simp [h]
  constructor
  · intro h1 h2; exact h1 c h2 rfl
  · intro h1 x hx hxc; subst hxc; exact h1 hx

theorem mem_mtf {l : T} {c : UInt8} (h : c ∈ l) (x : UInt8) : x ∈ mtf l c ↔ x ∈ l := by
  unfold mtf
  by_cases hx : x = c
  · subst hx; simp [h]
  · simp [hx]
theorem length_mtf {l : T} {c : UInt8} (h : c ∈ l) : (mtf l c).length = l.length := by
  unfold mtf
  rw [List.length_cons, List.length_erase_of_mem h]
  have := List.length_pos_of_mem h
  omega
theorem nodup_mtf {l : T} (c : UInt8) (h : l.Nodup) : (mtf l c).Nodup := by
  unfold mtf
  rw [List.nodup_cons]
  exact ⟨fun h1 => (List.Nodup.mem_erase_iff h).1 h1 |>.1 rfl, h.erase c⟩
theorem erase_eq (l : T) (c : UInt8) (h : c ∈ l) : l.erase c = l.eraseIdx (l.idxOf c) := by
  rw [List.erase_eq_eraseIdx_of_idxOf (i := l.idxOf c) rfl]
theorem getD_idxOf (l : T) (c : UInt8) (h : c ∈ l) : l.getD (l.idxOf c) 0 = c := by
  have h1 := List.idxOf_lt_length_of_mem h
  rw [List.getD, List.getElem?_eq_getElem h1, Option.getD_some, List.getElem_idxOf]
theorem mtf_bring (l : T) (c : UInt8) (h : c ∈ l) : mtf l c = bring l (l.idxOf c) := by
  unfold mtf bring
  rw [getD_idxOf l c h, erase_eq l c h]
theorem idxOf_getD (l : T) (k : Nat) (hk : k < l.length) (h : l.Nodup) : l.idxOf (l.getD k 0) = k := by
  rw [List.getD, List.getElem?_eq_getElem hk, Option.getD_some]
  exact h.idxOf_getElem k hk
theorem getD_mem (l : T) (k : Nat) (hk : k < l.length) : l.getD k 0 ∈ l := by
  rw [List.getD, List.getElem?_eq_getElem hk, Option.getD_some]; exact List.getElem_mem hk
theorem bring_mtf (l : T) (k : Nat) (hk : k < l.length) (h : l.Nodup) : bring l k = mtf l (l.getD k 0) := by
  rw [mtf_bring l _ (getD_mem l k hk), idxOf_getD l k hk h]
theorem length_bring (l : T) (k : Nat) (hk : k < l.length) : (bring l k).length = l.length := by
  unfold bring
  rw [List.length_cons, List.length_eraseIdx_of_lt hk]; omega

theorem all_cons (a : T) (c : UInt8) (s : T) : all a (c :: s) = (decide (c ∈ a) && all a s) := rfl
theorem all_snoc (a s : T) (c : UInt8) : all a (s ++ [c]) = (all a s && decide (c ∈ a)) := by simp [all]
theorem all_iff (a s : T) : all a s = true ↔ ∀ c ∈ s, c ∈ a := by simp [all]
theorem all_mtf {a : T} {c : UInt8} (h : c ∈ a) (s : T) : all (mtf a c) s = all a s := by
  unfold all
  congr 1
  funext x
  simp [mem_mtf h]

theorem fins_snoc (a s : T) (c : UInt8) : fins a (s ++ [c]) = mtf (fins a s) c := by unfold fins; rw [List.foldl_append]; rfl
theorem fins_append (a s t : T) : fins a (s ++ t) = fins (fins a s) t := by unfold fins; rw [List.foldl_append]
theorem plcs_append : ∀ (a s t : T), plcs a (s ++ t) = plcs a s ++ plcs (fins a s) t
  | a, [], t => rfl
  | a, c :: s, t => by rw [List.cons_append, plcs, plcs, plcs_append (mtf a c) s t]; rfl
theorem plcs_snoc (a s : T) (c : UInt8) : plcs a (s ++ [c]) = plcs a s ++ [(fins a s).idxOf c] := by rw [plcs_append]; rfl
theorem plcs_length : ∀ (a s : T), (plcs a s).length = s.length
  | _, [] => rfl
  | a, c :: s => by rw [plcs, List.length_cons, plcs_length (mtf a c) s]; rfl
theorem fins_mem : ∀ (s a : T), all a s = true → ∀ x, x ∈ fins a s ↔ x ∈ a
  | [], a, _, x => Iff.rfl
  | c :: s, a, h, x => by
    rw [all_cons, Bool.and_eq_true, decide_eq_true_eq] at h
    have ih := fins_mem s (mtf a c) (by rw [all_mtf h.1]; exact h.2) x
    show x ∈ fins (mtf a c) s ↔ _
    rw [ih, mem_mtf h.1]
theorem fins_length : ∀ (s a : T), all a s = true → (fins a s).length = a.length
  | [], a, _ => rfl
  | c :: s, a, h => by
    rw [all_cons, Bool.and_eq_true, decide_eq_true_eq] at h
    show (fins (mtf a c) s).length = _
    rw [fins_length s (mtf a c) (by rw [all_mtf h.1]; exact h.2), length_mtf h.1]
theorem fins_nodup : ∀ (s a : T), a.Nodup → (fins a s).Nodup
  | [], a, h => h
  | c :: s, a, h => fins_nodup s (mtf a c) (nodup_mtf c h)

/-! ### Back undoes Front, and Front Back -/
theorem unp_plcs : ∀ (s a : T), all a s = true → unp a (plcs a s) = s
  | [], _, _ => rfl
  | c :: s, a, h => by
    rw [all_cons, Bool.and_eq_true, decide_eq_true_eq] at h
    rw [plcs, unp, getD_idxOf a c h.1, ← mtf_bring a c h.1, unp_plcs s (mtf a c) (by rw [all_mtf h.1]; exact h.2)]
theorem plcs_lt : ∀ (s a : T), all a s = true → ∀ k ∈ plcs a s, k < a.length
  | [], _, _, k, hk => by simp [plcs] at hk
  | c :: s, a, h, k, hk => by
    rw [all_cons, Bool.and_eq_true, decide_eq_true_eq] at h
    rw [plcs, List.mem_cons] at hk
    rcases hk with rfl | hk
    · exact List.idxOf_lt_length_of_mem h.1
    · have := plcs_lt s (mtf a c) (by rw [all_mtf h.1]; exact h.2) k hk
      rwa [length_mtf h.1] at this
theorem plcs_unp : ∀ (l : List Nat) (a : T), a.Nodup → (∀ k ∈ l, k < a.length) → plcs a (unp a l) = l
  | [], _, _, _ => rfl
  | k :: l, a, hn, h => by
    have hk := h k (by simp)
    rw [unp, plcs, idxOf_getD a k hk hn, ← bring_mtf a k hk hn]
    rw [plcs_unp l (bring a k) (by rw [bring_mtf a k hk hn]; exact nodup_mtf _ hn) (fun j hj => by rw [length_bring a k hk]; exact h j (by simp [hj]))]
theorem all_unp : ∀ (l : List Nat) (a : T), (∀ k ∈ l, k < a.length) → all a (unp a l) = true
  | [], _, _ => rfl
  | k :: l, a, h => by
    have hk := h k (by simp)
    have hb : ∀ x, x ∈ bring a k → x ∈ a := by
      intro x hx
      unfold bring at hx
      rcases List.mem_cons.1 hx with rfl | hx
      · exact getD_mem a k hk
      · exact List.mem_of_mem_eraseIdx hx
    rw [unp, all_cons, Bool.and_eq_true, decide_eq_true_eq]
    refine ⟨getD_mem a k hk, ?_⟩
    have ih := all_unp l (bring a k) (fun j hj => by rw [length_bring a k hk]; exact h j (by simp [hj]))
    rw [all_iff] at ih ⊢
    exact fun c hc => hb c (ih c hc)
theorem unp_append : ∀ (l m : List Nat) (a : T), unp a (l ++ m) = unp a l ++ unp (unf a l) m
  | [], m, a => rfl
  | k :: l, m, a => by rw [List.cons_append, unp, unp, unp_append l m]; rfl
theorem unp_snoc (a : T) (l : List Nat) (k : Nat) : unp a (l ++ [k]) = unp a l ++ [(unf a l).getD k 0] := by rw [unp_append]; rfl
theorem unf_snoc (a : T) (l : List Nat) (k : Nat) : unf a (l ++ [k]) = bring (unf a l) k := by unfold unf; rw [List.foldl_append]; rfl
theorem unf_length : ∀ (l : List Nat) (a : T), (∀ k ∈ l, k < a.length) → (unf a l).length = a.length
  | [], _, _ => rfl
  | k :: l, a, h => by
    have hk := h k (by simp)
    show (unf (bring a k) l).length = _
    rw [unf_length l (bring a k) (fun j hj => by rw [length_bring a k hk]; exact h j (by simp [hj])), length_bring a k hk]
theorem unp_length : ∀ (l : List Nat) (a : T), (unp a l).length = l.length
  | [], _ => rfl
  | k :: l, a => by rw [unp, List.length_cons, unp_length l]; rfl

/-! ### Alphabets and texts of raw numbers -/
def astep (out : T) (c : UInt8) : T := if out.length < 30 ∧ ¬ c ∈ out then out ++ [c] else out
def alpha (s : T) : T := s.foldl astep []
theorem alpha_snoc (s : T) (c : UInt8) : alpha (s ++ [c]) = astep (alpha s) c := by unfold alpha; rw [List.foldl_append]; rfl
theorem astep_nodup {out : T} (c : UInt8) (h : out.Nodup) : (astep out c).Nodup := by
  unfold astep
  split
  · rename_i h1
    have := (right_iff (out ++ [c])).1 (by rw [right_snoc out c h]; simp [h1.2])
    exact this
  · exact h
theorem astep_len (out : T) (c : UInt8) (h : out.length ≤ 30) : (astep out c).length ≤ 30 := by
  unfold astep; split
  · rw [List.length_append]; simp; omega
  · exact h
theorem foldl_nodup : ∀ (s out : T), out.Nodup → (s.foldl astep out).Nodup
  | [], _, h => h
  | c :: s, out, h => foldl_nodup s _ (astep_nodup c h)
theorem foldl_len : ∀ (s out : T), out.length ≤ 30 → (s.foldl astep out).length ≤ 30
  | [], _, h => h
  | c :: s, out, h => foldl_len s _ (astep_len out c h)
theorem foldl_full : ∀ (s out : T), 30 ≤ out.length → s.foldl astep out = out
  | [], _, _ => rfl
  | c :: s, out, h => by
    have e : astep out c = out := by unfold astep; rw [if_neg (by omega)]
    rw [List.foldl_cons, e, foldl_full s out h]
theorem alpha_nodup (s : T) : (alpha s).Nodup := foldl_nodup s [] List.nodup_nil
theorem alpha_len (s : T) : (alpha s).length ≤ 30 := foldl_len s [] (by simp)
theorem alpha_full (s : T) (k : Nat) (h : 30 ≤ (alpha (s.take k)).length) : alpha s = alpha (s.take k) := by
  have e : alpha s = (s.drop k).foldl astep (alpha (s.take k)) := by
    unfold alpha; rw [← List.foldl_append, List.take_append_drop]
  rw [e, foldl_full _ _ h]

/-- Which of n things a raw number speaks of. -/
@[irreducible] def pk (c n : Int) : Int := if c < 0 then -(c + 1) % n else c % n
theorem pk_lo (c n : Int) (h : 1 ≤ n) : 0 ≤ pk c n := by
  unfold pk; split <;> exact Int.emod_nonneg _ (by omega)
theorem pk_hi (c n : Int) (h : 1 ≤ n) : pk c n < n := by
  unfold pk; split <;> exact Int.emod_lt_of_pos _ (by omega)
def text (a : T) (raw : List Int) : T := if a = [] then [] else raw.map fun r => a.getD (pk r (a.length : Int)).toNat 0
theorem text_all (a : T) (raw : List Int) : all a (text a raw) = true := by
  unfold text
  by_cases h : a = []
  · rw [if_pos h]; rfl
  · rw [if_neg h, all_iff]
    intro c hc
    obtain ⟨r, _, rfl⟩ := List.mem_map.1 hc
    have hl : 1 ≤ (a.length : Int) := by have := List.length_pos_iff.2 h; omega
    have h1 := pk_lo r _ hl
    have h2 := pk_hi r _ hl
    exact getD_mem a _ (by omega)
theorem text_snoc (a : T) (raw : List Int) (r : Int) (h : ¬ a = []) : text a (raw ++ [r]) = text a raw ++ [a.getD (pk r (a.length : Int)).toNat 0] := by
  unfold text; rw [if_neg h, if_neg h]; simp
theorem text_length (a : T) (raw : List Int) (h : ¬ a = []) : (text a raw).length = raw.length := by
  unfold text; rw [if_neg h]; simp

/-! ### Places -/
def plcI (l : T) (c : UInt8) : Int := if c ∈ l then (l.idxOf c : Int) else -1
theorem idxOf_at (l : T) (c : UInt8) (k : Nat) (hk : k < l.length) (h : ¬ c ∈ l.take k) (e : l[k] = c) : l.idxOf c = k := by
  have h1 : l = l.take k ++ l[k] :: l.drop (k + 1) := by rw [List.getElem_cons_drop, List.take_append_drop]
  rw [h1, List.idxOf_append, if_neg h, e, List.idxOf_cons_self, List.length_take]
  omega
theorem plcI_at (l : T) (c : UInt8) (k : Nat) (hk : k < l.length) (h : ¬ c ∈ l.take k) (e : l[k] = c) : plcI l c = (k : Int) := by
  unfold plcI
  rw [if_pos (by rw [← e]; exact List.getElem_mem hk), idxOf_at l c k hk h e]
theorem mem_take_succ (l : T) (c : UInt8) (k : Nat) (hk : k < l.length) : c ∈ l.take (k + 1) ↔ c ∈ l.take k ∨ c = l[k] := by
  rw [List.take_succ_eq_append_getElem hk, List.mem_append, List.mem_singleton]
theorem idxOf_take (l : T) (c : UInt8) (k : Nat) (h : c ∈ l.take k) : l.idxOf c < k := by
  have h2 := List.idxOf_lt_length_of_mem h
  have e : l.idxOf c = (l.take k).idxOf c := by
    conv => lhs; rw [← List.take_append_drop k l, List.idxOf_append, if_pos h]
  rw [List.length_take] at h2
  omega
theorem plcI_lt (l : T) (k : Nat) (hk : k < l.length) : (plcI l l[k] < (k : Int)) ↔ l[k] ∈ l.take k := by
  unfold plcI
  rw [if_pos (List.getElem_mem hk)]
  constructor
  · intro h
    have h1 : l.idxOf l[k] < k := by omega
    have h2 := List.idxOf_lt_length_of_mem (List.getElem_mem hk)
    rw [← List.getElem_idxOf h2]
    exact List.mem_take_iff_getElem.2 ⟨l.idxOf l[k], by omega, by simp⟩
  · intro h
    have := idxOf_take l l[k] k h
    omega
theorem nodup_take_succ (l : T) (k : Nat) (hk : k < l.length) : (l.take (k + 1)).Nodup ↔ (l.take k).Nodup ∧ ¬ l[k] ∈ l.take k := by
  rw [List.take_succ_eq_append_getElem hk, List.nodup_append]
  simp
  intro _
  constructor
  · intro h1 h2; exact h1 _ h2 rfl
  · intro h1 x hx e; subst e; exact h1 hx
theorem right_false (l : T) (k : Nat) (hk : k < l.length) (h : l[k] ∈ l.take k) : right l = false := by
  rw [Bool.eq_false_iff]
  intro h1
  rw [right_iff] at h1
  have h2 : (l.take (k + 1)).Nodup := h1.sublist (List.take_sublist _ _)
  exact ((nodup_take_succ l k hk).1 h2).2 h

/-! ### What Front, After and Back answer -/
def codeF (a s : T) : Int := if right a = true then (if all a s = true then 0 else 5) else 1
def resF (a s : T) : List Nat := if codeF a s = 0 then plcs a s else []
def resA (a s : T) : T := if codeF a s = 0 then fins a s else []
theorem codeF_bad (a s : T) (h : right a = false) : codeF a s = 1 := by unfold codeF; rw [h]; rfl
theorem codeF_none (a s : T) (h : right a = true) (h2 : all a s = false) : codeF a s = 5 := by unfold codeF; rw [h, h2]; rfl
theorem codeF_ok (a s : T) (h : right a = true) (h2 : all a s = true) : codeF a s = 0 := by unfold codeF; rw [h, h2]; rfl
theorem resF_bad (a s : T) (h : codeF a s = 0) : resF a s = plcs a s := by unfold resF; rw [if_pos h]
theorem resF_nil (a s : T) (h : ¬ codeF a s = 0) : resF a s = [] := by unfold resF; rw [if_neg h]
theorem resA_ok (a s : T) (h : codeF a s = 0) : resA a s = fins a s := by unfold resA; rw [if_pos h]
theorem resA_nil (a s : T) (h : ¬ codeF a s = 0) : resA a s = [] := by unfold resA; rw [if_neg h]
/-- Places that may be told of n bytes, as numbers. -/
def inR (n : Nat) (l : List Int) : Bool := l.all fun x => decide (0 ≤ x ∧ x < (n : Int))
def nats (l : List Int) : List Nat := l.map Int.toNat
def codeB (a : T) (l : List Int) : Int := if right a = true then (if inR a.length l = true then 0 else 5) else 1
def resB (a : T) (l : List Int) : T := if codeB a l = 0 then unp a (nats l) else []
theorem codeB_bad (a : T) (l : List Int) (h : right a = false) : codeB a l = 1 := by unfold codeB; rw [h]; rfl
theorem codeB_none (a : T) (l : List Int) (h : right a = true) (h2 : inR a.length l = false) : codeB a l = 5 := by unfold codeB; rw [h, h2]; rfl
theorem codeB_ok (a : T) (l : List Int) (h : right a = true) (h2 : inR a.length l = true) : codeB a l = 0 := by unfold codeB; rw [h, h2]; rfl
theorem resB_ok (a : T) (l : List Int) (h : codeB a l = 0) : resB a l = unp a (nats l) := by unfold resB; rw [if_pos h]
theorem resB_nil (a : T) (l : List Int) (h : ¬ codeB a l = 0) : resB a l = [] := by unfold resB; rw [if_neg h]
theorem inR_snoc (n : Nat) (l : List Int) (x : Int) : inR n (l ++ [x]) = (inR n l && decide (0 ≤ x ∧ x < (n : Int))) := by simp [inR]
theorem inR_iff (n : Nat) (l : List Int) : inR n l = true ↔ ∀ x ∈ l, 0 ≤ x ∧ x < (n : Int) := by simp [inR]
theorem nats_snoc (l : List Int) (x : Int) : nats (l ++ [x]) = nats l ++ [x.toNat] := by simp [nats]
theorem nats_lt (n : Nat) (l : List Int) (h : inR n l = true) : ∀ k ∈ nats l, k < n := by
  intro k hk
  obtain ⟨x, hx, rfl⟩ := List.mem_map.1 hk
  have := (inR_iff n l).1 h x hx
  omega
theorem nats_of (l : List Nat) : nats (l.map fun k : Nat => (k : Int)) = l := by unfold nats; rw [List.map_map]; conv => { rhs; rw [← List.map_id l] }; exact List.map_congr_left fun x _ => by simp
theorem inR_of (n : Nat) (l : List Nat) (h : ∀ k ∈ l, k < n) : inR n (l.map fun k : Nat => (k : Int)) = true := by
  rw [inR_iff]
  intro x hx
  obtain ⟨k, hk, rfl⟩ := List.mem_map.1 hx
  have := h k hk
  omega
end Front
end Go.Proofs.Ytlanididnlmnhaa
