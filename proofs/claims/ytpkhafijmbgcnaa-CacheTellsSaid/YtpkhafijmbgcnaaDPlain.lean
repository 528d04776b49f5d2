/- The plain laws of what is taken and kept (chapter 21): lists alone. -/
import Derived.Test.YtpkhafijmbgcnaaCPlain
namespace Go.Proofs.Ytpkhafijmbgcnaa
namespace Cache
set_option linter.unusedVariables false

theorem put_perm (h : Hd) : ∀ (l : List Hd), Rise l → (put h l).Perm (h :: drop h.blk l)
  | [], _ => List.Perm.refl _
  | x :: r, hr => by
    have hd : (∀ y ∈ r, y.blk ≠ h.blk) → drop h.blk r = r := fun hh => drop_none r h.blk hh
    unfold put
    split
    · rename_i h1
      rw [show drop h.blk (x :: r) = x :: drop h.blk r by unfold drop; rw [List.filter_cons, if_pos (by simp; omega)]]
      exact (List.Perm.cons x (put_perm h r hr.tail)).trans (List.Perm.swap h x _)
    · split
      · rename_i h1 h2
        rw [show drop h.blk (x :: r) = r by
          unfold drop
          rw [List.filter_cons, if_neg (by simp [h2])]
          exact hd (fun y hy => by have := hr.head y hy; omega)]
      · rename_i h1 h2
        rw [show drop h.blk (x :: r) = x :: r by
          exact drop_none _ _ (fun y hy => by
            rcases List.mem_cons.1 hy with rfl | hy
            · exact h2
            · have := hr.head y hy; omega)]
theorem Apart.drop {l : List Hd} (h : Apart l) (b : Int) : Apart (drop b l) := List.Pairwise.filter _ h
theorem apart_perm {l m : List Hd} (h : l.Perm m) (ha : Apart m) : Apart l := (List.Perm.pairwise_iff (fun h => Ne.symm h) h).2 ha
theorem Apart.put {l : List Hd} (ha : Apart l) (hr : Rise l) (h : Hd) (hn : ∀ x ∈ l, x.st ≠ h.st) : Apart (put h l) :=
  apart_perm (put_perm h l hr) (List.pairwise_cons.2 ⟨fun x hx => Ne.symm (hn x (mem_drop.1 hx).1), ha.drop _⟩)
theorem drop_length_le (b : Int) (l : List Hd) : (drop b l).length ≤ l.length := List.length_filter_le _ _
theorem Good.put {clock : Int} {l : List Hd} (hg : Good clock l) (hc : 0 ≤ clock) (b : Int) (hb : 0 ≤ b) (t : ByteArray) : Good (clock + 1) (put ⟨b, clock + 1, t⟩ l) := by
  obtain ⟨h1, h2, h3⟩ := hg
  refine ⟨fun x hx => ?_, h2.put _, h3.put h2 _ (fun x hx => ?_)⟩
  · rcases (mem_put _ l h2 x).1 hx with rfl | ⟨hx, _⟩
    · exact ⟨hb, by show 1 ≤ clock + 1; omega, by show clock + 1 ≤ clock + 1; omega⟩
    · obtain ⟨a1, a2, a3⟩ := h1 x hx
      exact ⟨a1, a2, by omega⟩
  · have := (h1 x hx).2.2
    show x.st ≠ clock + 1
    omega
theorem Good.drop {clock : Int} {l : List Hd} (hg : Good clock l) (b : Int) : Good clock (drop b l) :=
  ⟨fun x hx => hg.1 x (mem_drop.1 hx).1, hg.2.1.drop b, hg.2.2.drop b⟩
theorem after_right {c : Sh} (hc : Right c) (hlt : c.clock < MaxC) (g b : Int) (hb : 0 ≤ b) (t : ByteArray) (hlen : ((put ⟨b, c.clock + 1, t⟩ (drop g c.held)).length : Int) ≤ c.room) : Right (after c (drop g c.held) b t) := by
  obtain ⟨h1, h2, h3, h4, h5, h6⟩ := hc
  exact ⟨h1, h2, by show 0 ≤ c.clock + 1; omega, by show c.clock + 1 ≤ MaxC; omega, hlen, (h6.drop g).put h3 b hb t⟩
theorem put_len_le (h : Hd) (l : List Hd) (hr : Rise l) : (put h l).length ≤ l.length + 1 := by
  rcases put_length h l hr with ⟨e, _⟩ | ⟨e, _⟩ <;> omega
theorem drop_neg {c : Sh} (hc : Right c) : drop (-1) c.held = c.held := drop_none _ _ (fun x hx => by have := (hc.2.2.2.2.2.1 x hx).1; omega)

/-! ### the order behind a use -/
theorem ord_mem {l : List Hd} {x : Hd} : x ∈ ord l ↔ x ∈ l := (ord_perm l).mem_iff
theorem ord_drop (l : List Hd) (ha : Apart l) (b : Int) : ord (drop b l) = drop b (ord l) :=
  (ord_one (ha.drop b) ((ord_perm l).filter _) (List.Pairwise.filter _ (ord_sorted l ha))).symm
theorem map_drop_blk (b : Int) (l : List Hd) : (drop b l).map Hd.blk = (l.map Hd.blk).filter (fun x => decide (x ≠ b)) := by
  unfold drop
  rw [List.filter_map]
  rfl
theorem ord_put (h : Hd) (l : List Hd) (hr : Rise l) (ha : Apart l) (hn : ∀ x ∈ l, x.st < h.st) : ord (put h l) = h :: drop h.blk (ord l) := by
  have ha2 : Apart (put h l) := ha.put hr h (fun x hx => by have := hn x hx; omega)
  refine (ord_one ha2 ?_ ?_).symm
  · rw [← ord_drop l ha]
    exact ((ord_perm _).cons h).trans (put_perm h l hr).symm
  · refine List.pairwise_cons.2 ⟨fun x hx => hn x (ord_mem.1 (mem_drop.1 hx).1), List.Pairwise.filter _ (ord_sorted l ha)⟩
theorem order_of {c : Sh} (hc : Right c) : order c = (ord c.held).map Hd.blk := by unfold order; rw [if_pos ((right_iff c).2 hc)]
def out (b : Int) (l : List Int) : List Int := l.filter fun x => decide (x ≠ b)
theorem mem_out {b x : Int} {l : List Int} : x ∈ out b l ↔ x ∈ l ∧ x ≠ b := by unfold out; simp
theorem out_none {b : Int} {l : List Int} (h : b ∉ l) : out b l = l := by
  unfold out
  rw [List.filter_eq_self]
  intro x hx
  have : x ≠ b := fun e => h (e ▸ hx)
  simpa using this
theorem order_after {c : Sh} (hc : Right c) (hlt : c.clock < MaxC) (g b : Int) (hb : 0 ≤ b) (t : ByteArray) (hlen : ((put ⟨b, c.clock + 1, t⟩ (drop g c.held)).length : Int) ≤ c.room) :
    order (after c (drop g c.held) b t) = b :: out b (out g (order c)) := by
  have hg : Good c.clock (drop g c.held) := hc.2.2.2.2.2.drop g
  rw [order_of (after_right hc hlt g b hb t hlen), order_of hc]
  show (ord (put ⟨b, c.clock + 1, t⟩ (drop g c.held))).map Hd.blk = _
  rw [ord_put _ _ hg.2.1 hg.2.2 (fun x hx => by have := (hg.1 x hx).2.2; show x.st < c.clock + 1; omega), List.map_cons]
  rw [ord_drop _ hc.2.2.2.2.2.2.2, map_drop_blk, map_drop_blk]
  rfl
theorem mem_order {c : Sh} (hc : Right c) (b : Int) : b ∈ order c ↔ ∃ h, find b c.held = some h := by
  rw [order_of hc, List.mem_map]
  constructor
  · rintro ⟨x, hx, rfl⟩
    exact ⟨x, find_of_mem hc.2.2.2.2.2.2.1 (ord_mem.1 hx) rfl⟩
  · rintro ⟨h, hf⟩
    obtain ⟨h1, h2⟩ := find_some hf
    exact ⟨h, ord_mem.2 h1, h2⟩
theorem order_len {c : Sh} (hc : Right c) : (order c).length = c.held.length := by rw [order_of hc, List.length_map, ord_length]
theorem order_nodup {c : Sh} (hc : Right c) : (order c).Nodup := by
  rw [order_of hc]
  exact ((ord_perm c.held).map Hd.blk).nodup_iff.2 hc.2.2.2.2.2.2.1.nodup
theorem order_nonneg {c : Sh} (hc : Right c) : ∀ b ∈ order c, 0 ≤ b := by
  intro b hb
  obtain ⟨h, hf⟩ := (mem_order hc b).1 hb
  obtain ⟨h1, h2⟩ := find_some hf
  rw [← h2]
  exact (hc.2.2.2.2.2.1 h h1).1
/-- What goes: nothing, or the one that was used first, where the shelf is full and the block is not held. -/
theorem goes_none {c : Sh} {b : Int} (h : ¬ (find b c.held = none ∧ (c.held.length : Int) = c.room)) : goes c b = -1 := by
  unfold goes
  rw [if_neg]
  rintro ⟨h1, h2⟩
  refine h ⟨?_, h2⟩
  cases hf : find b c.held with
  | none => rfl
  | some x => rw [hf] at h1; cases h1
theorem goes_last {c : Sh} (hc : Right c) {b : Int} (h1 : find b c.held = none) (h2 : (c.held.length : Int) = c.room) : ∃ hne : order c ≠ [], goes c b = (order c).getLast hne := by
  have hl := order_len hc
  have hne : order c ≠ [] := by
    intro e
    rw [e] at hl
    simp at hl
    have := hc.1
    omega
  refine ⟨hne, ?_⟩
  unfold goes
  rw [if_pos ⟨by rw [h1]; rfl, h2⟩, List.getLastD_eq_getLast?, List.getLast?_eq_some_getLast hne]
  rfl
theorem out_last (l : List Int) (hn : l.Nodup) (hne : l ≠ []) : out (l.getLast hne) l = l.dropLast := by
  have e := List.dropLast_concat_getLast hne
  obtain ⟨x, hx⟩ : ∃ x, l.getLast hne = x := ⟨_, rfl⟩
  rw [hx] at e ⊢
  obtain ⟨d, hd⟩ : ∃ d, l.dropLast = d := ⟨_, rfl⟩
  rw [hd] at e ⊢
  subst e
  have hnot : x ∉ d := by
    intro h
    rw [List.nodup_append] at hn
    exact hn.2.2 _ h _ (by simp) rfl
  have h1 := out_none hnot
  unfold out at h1 ⊢
  rw [List.filter_append, h1]
  simp
/-- The list that is left when one must go. -/
def left (n : Int) (b : Int) (l : List Int) : List Int := if b ∉ l ∧ (l.length : Int) = n then l.dropLast else l
theorem out_goes {c : Sh} (hc : Right c) (b : Int) : out (goes c b) (order c) = left c.room b (order c) := by
  unfold left
  by_cases h : find b c.held = none ∧ (c.held.length : Int) = c.room
  · obtain ⟨hne, hg⟩ := goes_last hc h.1 h.2
    have hnm : b ∉ order c := fun hm => by
      obtain ⟨x, hx⟩ := (mem_order hc b).1 hm
      rw [h.1] at hx
      cases hx
    rw [if_pos ⟨hnm, by rw [order_len hc]; exact h.2⟩, hg, out_last _ (order_nodup hc) hne]
  · rw [if_neg, goes_none h, out_none (fun hm => by have := order_nonneg hc _ hm; omega)]
    rintro ⟨h1, h2⟩
    refine h ⟨?_, by rw [← order_len hc]; exact h2⟩
    cases hf : find b c.held with
    | none => rfl
    | some x => exact absurd ((mem_order hc b).2 ⟨x, hf⟩) h1
theorem keep_len {c : Sh} (hc : Right c) (b : Int) (t : ByteArray) : ((put ⟨b, c.clock + 1, t⟩ (drop (goes c b) c.held)).length : Int) ≤ c.room := by
  have hr := hc.2.2.2.2.2.2.1
  have h5 := hc.2.2.2.2.1
  by_cases h : find b c.held = none ∧ (c.held.length : Int) = c.room
  · obtain ⟨hne, hg⟩ := goes_last hc h.1 h.2
    have hm : goes c b ∈ order c := by rw [hg]; exact List.getLast_mem hne
    obtain ⟨x, hx⟩ := (mem_order hc _).1 hm
    obtain ⟨hx1, hx2⟩ := find_some hx
    have hlt : (drop (goes c b) c.held).length < c.held.length := by
      unfold drop
      refine List.length_filter_lt_length_iff_exists.2 ⟨x, hx1, by simp [hx2]⟩
    have := put_len_le ⟨b, c.clock + 1, t⟩ _ (hr.drop (goes c b))
    omega
  · rw [goes_none h, drop_neg hc]
    rcases put_length ⟨b, c.clock + 1, t⟩ c.held hr with ⟨e, _⟩ | ⟨e, hn⟩
    · rw [e]; exact h5
    · have : find b c.held = none := by
        cases hf : find b c.held with
        | none => rfl
        | some x => obtain ⟨q1, q2⟩ := find_some hf; exact absurd q2 (hn x q1)
      have : ¬ (c.held.length : Int) = c.room := fun e2 => h ⟨this, e2⟩
      rw [e]
      omega
theorem keep_eq {c : Sh} (hc : Right c) (hlt : c.clock < MaxC) (b : Int) (hb : 0 ≤ b) (t : ByteArray) : keep c b t = (goes c b, after c (drop (goes c b) c.held) b t, 0) := by
  unfold keep
  rw [if_pos ⟨(right_iff c).2 hc, hb⟩, if_neg (by omega)]
theorem keep_right {c : Sh} (hc : Right c) (hlt : c.clock < MaxC) (b : Int) (hb : 0 ≤ b) (t : ByteArray) : Right (after c (drop (goes c b) c.held) b t) := after_right hc hlt _ b hb t (keep_len hc b t)
theorem keep_order {c : Sh} (hc : Right c) (hlt : c.clock < MaxC) (b : Int) (hb : 0 ≤ b) (t : ByteArray) : order (after c (drop (goes c b) c.held) b t) = b :: out b (left c.room b (order c)) := by
  rw [order_after hc hlt _ b hb t (keep_len hc b t), out_goes hc]
theorem take_len {c : Sh} (hc : Right c) {b : Int} {h : Hd} (hf : find b c.held = some h) (t : ByteArray) : ((put ⟨b, c.clock + 1, t⟩ c.held).length : Int) ≤ c.room := by
  obtain ⟨q1, q2⟩ := find_some hf
  rcases put_length ⟨b, c.clock + 1, t⟩ c.held hc.2.2.2.2.2.2.1 with ⟨e, _⟩ | ⟨e, hn⟩
  · rw [e]; exact hc.2.2.2.2.1
  · exact absurd q2 (hn h q1)
theorem find_nonneg {c : Sh} (hc : Right c) {b : Int} {h : Hd} (hf : find b c.held = some h) : 0 ≤ b := by
  obtain ⟨q1, q2⟩ := find_some hf
  rw [← q2]
  exact (hc.2.2.2.2.2.1 h q1).1
theorem take_eq {c : Sh} (hc : Right c) (hlt : c.clock < MaxC) {b : Int} {h : Hd} (hf : find b c.held = some h) : take c b = (h.txt, after c c.held b h.txt, 0) := by
  unfold take
  rw [if_pos ((right_iff c).2 hc), hf]
  simp only
  rw [if_neg (by omega)]
theorem take_none {c : Sh} (hc : Right c) {b : Int} (hf : find b c.held = none) : take c b = (⟨#[]⟩, zero, 5) := by
  unfold take
  rw [if_pos ((right_iff c).2 hc), hf]
theorem take_right {c : Sh} (hc : Right c) (hlt : c.clock < MaxC) {b : Int} {h : Hd} (hf : find b c.held = some h) (t : ByteArray) : Right (after c c.held b t) := by
  have := after_right hc hlt (-1) b (find_nonneg hc hf) t (by rw [drop_neg hc]; exact take_len hc hf t)
  rwa [drop_neg hc] at this
theorem take_order {c : Sh} (hc : Right c) (hlt : c.clock < MaxC) {b : Int} {h : Hd} (hf : find b c.held = some h) (t : ByteArray) : order (after c c.held b t) = b :: out b (order c) := by
  have := order_after hc hlt (-1) b (find_nonneg hc hf) t (by rw [drop_neg hc]; exact take_len hc hf t)
  rwa [drop_neg hc, out_none (b := -1) (fun hm => by have := order_nonneg hc _ hm; omega)] at this
/-- What is held of another block, behind a use. -/
theorem find_after (l : List Hd) (hr : Rise l) (h : Hd) (x : Int) : find x (put h l) = if x = h.blk then some h else find x l := by
  have hp := hr.put h
  have hm := mem_put h l hr
  split
  · rename_i e
    exact find_of_mem hp ((hm h).2 (.inl rfl)) e.symm
  · rename_i e
    cases hf : find x l with
    | some y =>
      obtain ⟨hx, hb⟩ := find_some hf
      exact find_of_mem hp ((hm y).2 (.inr ⟨hx, by rw [hb]; exact e⟩)) hb
    | none =>
      cases hg : find x (put h l) with
      | none => rfl
      | some y =>
        obtain ⟨hx, hb⟩ := find_some hg
        rcases (hm y).1 hx with rfl | ⟨hx, _⟩
        · exact absurd hb.symm e
        · exact absurd hb (find_none hf y hx)
end Cache
end Go.Proofs.Ytpkhafijmbgcnaa
