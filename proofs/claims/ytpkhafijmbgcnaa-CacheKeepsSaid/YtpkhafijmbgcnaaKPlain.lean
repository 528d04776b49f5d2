/- The plain law of what is kept and stays (chapter 21). -/
import Derived.Test.YtpkhafijmbgcnaaDPlain
namespace Go.Proofs.Ytpkhafijmbgcnaa
namespace Cache
set_option linter.unusedVariables false

def there (k : Int) (l : List Hd) : Nat := if (find k l).isSome = true then 1 else 0
theorem find_dropped (g x : Int) (l : List Hd) (hr : Rise l) : find x (drop g l) = if x = g then none else find x l := by
  split
  · rename_i e
    cases hf : find x (drop g l) with
    | none => rfl
    | some y =>
      obtain ⟨h1, h2⟩ := find_some hf
      exact absurd (h2.trans e) (mem_drop.1 h1).2
  · rename_i e
    cases hf : find x l with
    | some y =>
      obtain ⟨h1, h2⟩ := find_some hf
      exact find_of_mem (hr.drop g) (mem_drop.2 ⟨h1, by rw [h2]; exact e⟩) h2
    | none =>
      cases hg : find x (drop g l) with
      | none => rfl
      | some y =>
        obtain ⟨h1, h2⟩ := find_some hg
        exact absurd h2 (find_none hf y (mem_drop.1 h1).1)
theorem drop_len (g : Int) (l : List Hd) (hr : Rise l) : (drop g l).length + there g l = l.length := by
  induction l with
  | nil => rfl
  | cons x r ih =>
    have ih := ih hr.tail
    by_cases h : x.blk = g
    · have hn : find g r = none := by
        cases hf : find g r with
        | none => rfl
        | some y =>
          obtain ⟨hy, hb⟩ := find_some hf
          have := hr.head y hy
          omega
      have e1 : drop g (x :: r) = drop g r := by unfold drop; simp [h]
      have e2 : find g (x :: r) = some x := by unfold find; simp [h]
      unfold there at ih ⊢
      rw [hn] at ih
      rw [e1, e2]
      simp at ih ⊢
      omega
    · have e1 : drop g (x :: r) = x :: drop g r := by unfold drop; simp [h]
      have e2 : find g (x :: r) = find g r := by unfold find; simp [h]
      unfold there at ih ⊢
      rw [e1, e2, List.length_cons, List.length_cons]
      omega
theorem put_len_there (h : Hd) (l : List Hd) (hr : Rise l) : (put h l).length + there h.blk l = l.length + 1 := by
  unfold there
  rcases put_length h l hr with ⟨e, x, hx, hb⟩ | ⟨e, hn⟩
  · rw [e, find_of_mem hr hx hb]; rfl
  · have : find h.blk l = none := by
      cases hf : find h.blk l with
      | none => rfl
      | some y =>
        obtain ⟨hy, hb⟩ := find_some hf
        exact absurd hb (hn y hy)
    rw [e, this]; rfl
/-- What is kept, and taken at once. -/
structure Keeps (c : Sh) (k : Int) (t : ByteArray) (g : Int) (d f : Sh) : Prop where
  keepE : keep c k t = (g, d, 0)
  takeE : take d k = (t, f, 0)
  rd : Right d
  rf : Right f
  clockD : d.clock = c.clock + 1
  clockF : f.clock = c.clock + 2
  ne : g ≠ k
  room : d.room = c.room
  roomF : f.room = c.room
  self : ∃ f', take f k = (t, f', 0)
  other : ∀ h ∈ c.held, h.blk ≠ k → h.blk ≠ g → ∃ f', take f h.blk = (h.txt, f', 0)
  gone : ∀ h ∈ c.held, h.blk ≠ k → h.blk = g → take f h.blk = (⟨#[]⟩, zero, 5)
  first : ∃ r, order f = k :: r
  count : (g < 0 ∧ f.held.length + there k c.held = c.held.length + 1) ∨ (0 ≤ g ∧ there k c.held = 0 ∧ f.held.length = c.held.length ∧ (c.held.length : Int) = c.room)
theorem keeps_of {c : Sh} (hc : Right c) (hlt : c.clock < 1000) (k : Int) (hk : 0 ≤ k) (t : ByteArray) : ∃ g d f, Keeps c k t g d f := by
  have hl1 : c.clock < MaxC := by unfold MaxC; omega
  have rd := keep_right hc hl1 k hk t
  obtain ⟨d, hd⟩ : ∃ d, after c (drop (goes c k) c.held) k t = d := ⟨_, rfl⟩
  have hdh : d.held = put ⟨k, c.clock + 1, t⟩ (drop (goes c k) c.held) := by rw [← hd]; rfl
  have hdc : d.clock = c.clock + 1 := by rw [← hd]; rfl
  have hdr : d.room = c.room := by rw [← hd]; rfl
  have hke := keep_eq hc hl1 k hk t
  have hko := keep_order hc hl1 k hk t
  rw [hd] at rd hke hko
  have hrise := hc.2.2.2.2.2.2.1
  have hdrise := hrise.drop (goes c k)
  have hfd : ∀ x, find x d.held = if x = k then some ⟨k, c.clock + 1, t⟩ else if x = goes c k then none else find x c.held := fun x => by
    rw [hdh, find_after _ hdrise, find_dropped _ _ _ hrise]
  have hfk : find k d.held = some ⟨k, c.clock + 1, t⟩ := by rw [hfd, if_pos rfl]
  have hl2 : d.clock < MaxC := by unfold MaxC; omega
  have hte := take_eq rd hl2 hfk
  have rf := take_right rd hl2 hfk t
  have hto := take_order rd hl2 hfk t
  obtain ⟨f, hf⟩ : ∃ f, after d d.held k t = f := ⟨_, rfl⟩
  have hfh : f.held = put ⟨k, d.clock + 1, t⟩ d.held := by rw [← hf]; rfl
  have hfc : f.clock = d.clock + 1 := by rw [← hf]; rfl
  have hfr : f.room = d.room := by rw [← hf]; rfl
  rw [show after d d.held k (⟨k, c.clock + 1, t⟩ : Hd).txt = f from hf] at hte
  rw [hf] at rf hto
  have hff : ∀ x, find x f.held = if x = k then some ⟨k, d.clock + 1, t⟩ else find x d.held := fun x => by
    rw [hfh, find_after _ rd.2.2.2.2.2.2.1]
  have hl3 : f.clock < MaxC := by unfold MaxC; omega
  have hgk : goes c k ≠ k := by
    by_cases h : find k c.held = none ∧ (c.held.length : Int) = c.room
    · obtain ⟨hne, hg⟩ := goes_last hc h.1 h.2
      intro e
      have hm : k ∈ order c := by rw [← e, hg]; exact List.getLast_mem hne
      obtain ⟨x, hx⟩ := (mem_order hc k).1 hm
      rw [h.1] at hx
      cases hx
    · rw [goes_none h]; omega
  refine ⟨goes c k, d, f, hke, hte, rd, rf, hdc, by omega, hgk, hdr, by rw [hfr, hdr], ?_, ?_, ?_, ⟨_, hto⟩, ?_⟩
  · exact ⟨_, take_eq rf hl3 (show find k f.held = some ⟨k, d.clock + 1, t⟩ by rw [hff, if_pos rfl])⟩
  · intro h hh h1 h2
    refine ⟨_, take_eq rf hl3 (show find h.blk f.held = some h by rw [hff, if_neg h1, hfd, if_neg h1, if_neg h2]; exact find_of_mem hrise hh rfl)⟩
  · intro h hh h1 h2
    exact take_none rf (by rw [hff, if_neg h1, hfd, if_neg h1, if_pos h2])
  · have c1 := put_len_there ⟨k, d.clock + 1, t⟩ d.held rd.2.2.2.2.2.2.1
    have c2 := put_len_there ⟨k, c.clock + 1, t⟩ (drop (goes c k) c.held) hdrise
    have c3 := drop_len (goes c k) c.held hrise
    rw [← hfh] at c1
    rw [← hdh] at c2
    have t1 : there k d.held = 1 := by unfold there; rw [hfk]; rfl
    have t2 : there k (drop (goes c k) c.held) = there k c.held := by
      unfold there
      rw [find_dropped _ _ _ hrise, if_neg (show ¬ k = goes c k from fun e => hgk e.symm)]
    simp only at c1 c2
    rw [t1] at c1
    rw [t2] at c2
    by_cases h : find k c.held = none ∧ (c.held.length : Int) = c.room
    · obtain ⟨hne, hg⟩ := goes_last hc h.1 h.2
      have hm : goes c k ∈ order c := by rw [hg]; exact List.getLast_mem hne
      obtain ⟨x, hx⟩ := (mem_order hc _).1 hm
      have t3 : there (goes c k) c.held = 1 := by unfold there; rw [hx]; rfl
      have t4 : there k c.held = 0 := by unfold there; rw [h.1]; rfl
      refine .inr ⟨order_nonneg hc _ hm, t4, by omega, h.2⟩
    · rw [goes_none h] at c3 c2
      have t3 : there (-1) c.held = 0 := by
        unfold there
        have : find (-1) c.held = none := by
          cases hf : find (-1) c.held with
          | none => rfl
          | some y =>
            have := find_nonneg hc hf
            omega
        rw [this]; rfl
      refine .inl ⟨by rw [goes_none h]; omega, by omega⟩
end Cache
end Go.Proofs.Ytpkhafijmbgcnaa
