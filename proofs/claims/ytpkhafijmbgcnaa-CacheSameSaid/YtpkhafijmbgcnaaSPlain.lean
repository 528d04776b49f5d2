/- The plain law of blocks that are used in turn (chapter 21). -/
import Derived.Test.YtpkhafijmbgcnaaCPlainB
namespace Go.Proofs.Ytpkhafijmbgcnaa
namespace Cache
set_option linter.unusedVariables false

theorem find_drop' (g x : Int) (l : List Hd) (hr : Rise l) : find x (drop g l) = if x = g then none else find x l := by
  split
  · rename_i e
    cases hf : find x (drop g l) with
    | none => rfl
    | some y =>
      obtain ⟨h1, h2⟩ := find_some hf
      exact absurd (h2.trans e) (mem_drop.1 h1).2
  · rename_i e
    cases hf : find x l with
    | some y =>
      obtain ⟨h1, h2⟩ := find_some hf
      exact find_of_mem (hr.drop g) (mem_drop.2 ⟨h1, by rw [h2]; exact e⟩) h2
    | none =>
      cases hg : find x (drop g l) with
      | none => rfl
      | some y =>
        obtain ⟨h1, h2⟩ := find_some hg
        exact absurd h2 (find_none hf y (mem_drop.1 h1).1)
/-- What is kept again changes no order. -/
theorem out_self {b : Int} {r : List Int} (h : b ∉ r) : out b (b :: r) = r := by
  have := out_none h
  unfold out at this ⊢
  rw [List.filter_cons, if_neg (by simp), this]
theorem left_held {n b : Int} {l : List Int} (h : b ∈ l) : left n b l = l := by unfold left; rw [if_neg (fun hh => hh.1 h)]
theorem goes_held {c : Sh} (hc : Right c) {b : Int} (h : b ∈ order c) : goes c b = -1 := by
  refine goes_none (fun hh => ?_)
  obtain ⟨x, hx⟩ := (mem_order hc b).1 h
  rw [hh.1] at hx
  cases hx
/-- Twice kept, and taken. -/
structure Twice (c : Sh) (b : Int) (x y : ByteArray) (g : Int) (d f h : Sh) : Prop where
  k1 : keep c b x = (g, d, 0)
  k2 : keep d b y = (-1, f, 0)
  t3 : take f b = (y, h, 0)
  rd : Right d
  rf : Right f
  rh : Right h
  o1 : order f = order d
  o2 : order h = order f
  room : h.room = c.room
  clock : h.clock = c.clock + 3
  few : ∀ u ∈ order h, u < 100
theorem twice_of {c : Sh} (hc : Right c) (hlt : c.clock < 1000) (b : Int) (hb : 0 ≤ b) (hb8 : b < 8) (h8 : ∀ u ∈ c.held, u.blk < 8) (x y : ByteArray) : ∃ g d f h, Twice c b x y g d f h := by
  have l1 : c.clock < MaxC := by unfold MaxC; omega
  have e1 := keep_eq hc l1 b hb x
  have rd := keep_right hc l1 b hb x
  have o1 := keep_order hc l1 b hb x
  obtain ⟨d, hd⟩ : ∃ d, after c (drop (goes c b) c.held) b x = d := ⟨_, rfl⟩
  have dc : d.clock = c.clock + 1 := by rw [← hd]; rfl
  have dr : d.room = c.room := by rw [← hd]; rfl
  rw [hd] at e1 rd o1
  have nd := order_nodup rd
  rw [o1] at nd
  have hnot : b ∉ out b (left c.room b (order c)) := (List.nodup_cons.1 nd).1
  have hm : b ∈ order d := by rw [o1]; simp
  have l2 : d.clock < MaxC := by unfold MaxC; omega
  have e2 := keep_eq rd l2 b hb y
  have rf := keep_right rd l2 b hb y
  have o2 := keep_order rd l2 b hb y
  rw [goes_held rd hm] at e2 rf o2
  obtain ⟨f, hf⟩ : ∃ f, after d (drop (-1) d.held) b y = f := ⟨_, rfl⟩
  have fc : f.clock = d.clock + 1 := by rw [← hf]; rfl
  have fr : f.room = d.room := by rw [← hf]; rfl
  have fh : f.held = put ⟨b, d.clock + 1, y⟩ d.held := by rw [← hf]; show put _ (drop (-1) d.held) = _; rw [drop_neg rd]
  rw [hf] at e2 rf o2
  have o3 : order f = order d := by
    rw [o2, left_held hm, o1, out_self hnot]
  have l3 : f.clock < MaxC := by unfold MaxC; omega
  have hff : find b f.held = some ⟨b, d.clock + 1, y⟩ := by rw [fh, find_after _ rd.2.2.2.2.2.2.1, if_pos rfl]
  have e3 := take_eq rf l3 hff
  have rh := take_right rf l3 hff y
  have o4 := take_order rf l3 hff y
  have nf := order_nodup rf
  have o5 : order (after f f.held b y) = order f := by rw [o4, o3, o1, out_self hnot]
  refine ⟨_, d, f, after f f.held b y, e1, e2, e3, rd, rf, rh, o3, o5, by show f.room = c.room; rw [fr, dr], by show f.clock + 1 = c.clock + 3; omega, fun u hu => ?_⟩
  rw [o5, o3, o1] at hu
  rcases List.mem_cons.1 hu with rfl | hu
  · omega
  · unfold out at hu
    have hu := (List.mem_filter.1 hu).1
    have hu : u ∈ order c := by
      unfold left at hu
      split at hu
      · exact (List.dropLast_subset _) hu
      · exact hu
    obtain ⟨v, hv⟩ := (mem_order hc u).1 hu
    obtain ⟨h1, h2⟩ := find_some hv
    have := h8 v h1
    omega

/-! ### Blocks that are kept one behind the other -/
def tops : Nat → List Int
  | 0 => []
  | k + 1 => (100 + (k : Int)) :: tops k
theorem tops_length : ∀ k, (tops k).length = k
  | 0 => rfl
  | k + 1 => by rw [tops, List.length_cons, tops_length k]
theorem mem_tops : ∀ (k : Nat) (x : Int), x ∈ tops k → 100 ≤ x ∧ x < 100 + (k : Int)
  | 0, x, h => by cases h
  | k + 1, x, h => by
    rcases List.mem_cons.1 h with rfl | h
    · omega
    · have := mem_tops k x h; omega
structure Fill (room : Int) (m k : Nat) (z : ByteArray) (h : Sh) : Prop where
  r : Right h
  room : h.room = room
  clock : h.clock ≤ m
  order : ∃ rest, Cache.order h = tops k ++ rest ∧ ∀ x ∈ rest, x < 100
  held : ∀ i : Nat, i < k → ∃ e, find (100 + (i : Int)) h.held = some e ∧ e.txt = z
theorem Fill.step {room : Int} {m k : Nat} {z : ByteArray} {h : Sh} (hf : Fill room m k z h) (hm : m ≤ 100000) (hk : (k : Int) < room) : ∃ g h', keep h (100 + (k : Int)) z = (g, h', 0) ∧ Fill room (m + 1) (k + 1) z h' := by
  obtain ⟨r, hroom, clock, ⟨rest, ho, hrest⟩, held⟩ := hf
  have l1 : h.clock < MaxC := by unfold MaxC; omega
  have hnot : (100 + (k : Int)) ∉ Cache.order h := by
    rw [ho]
    intro hh
    rcases List.mem_append.1 hh with hh | hh
    · have := mem_tops k _ hh; omega
    · have := hrest _ hh; omega
  have hgl : goes h (100 + (k : Int)) < 100 := by
    by_cases hh : find (100 + (k : Int)) h.held = none ∧ (h.held.length : Int) = h.room
    · obtain ⟨hne, hg⟩ := goes_last r hh.1 hh.2
      have hl := order_len r
      have hrn : rest ≠ [] := by
        intro e
        rw [ho, e, List.append_nil, tops_length] at hl
        omega
      rw [hg]
      have : (Cache.order h).getLast hne = rest.getLast hrn := by simp only [ho]; exact List.getLast_append_of_ne_nil _ hrn
      rw [this]
      exact hrest _ (List.getLast_mem hrn)
    · rw [goes_none hh]; omega
  have ko := keep_order r l1 (100 + (k : Int)) (by omega) z
  have hrise := r.2.2.2.2.2.2.1
  refine ⟨_, _, keep_eq r l1 _ (by omega) z, keep_right r l1 _ (by omega) z, hroom, by show h.clock + 1 ≤ _; omega, ?_, ?_⟩
  · rw [ko]
    have hl : left h.room (100 + (k : Int)) (Cache.order h) = tops k ++ (if ((Cache.order h).length : Int) = h.room then rest.dropLast else rest) := by
      unfold left
      by_cases hlen : ((Cache.order h).length : Int) = h.room
      · rw [if_pos ⟨hnot, hlen⟩, if_pos hlen, ho]
        have hrn : rest ≠ [] := by
          intro e
          rw [ho, e, List.append_nil, tops_length] at hlen
          omega
        rw [List.dropLast_append_of_ne_nil hrn]
      · rw [if_neg (fun hh => hlen hh.2), if_neg hlen, ho]
    have hno : (100 + (k : Int)) ∉ left h.room (100 + (k : Int)) (Cache.order h) := by
      intro hh
      refine hnot ?_
      unfold left at hh
      split at hh
      · exact (List.dropLast_subset _) hh
      · exact hh
    rw [out_none hno, hl]
    refine ⟨_, rfl, fun x hx => ?_⟩
    split at hx
    · exact hrest x ((List.dropLast_subset _) hx)
    · exact hrest x hx
  · intro i hi
    show ∃ e, find (100 + (i : Int)) (put ⟨100 + (k : Int), h.clock + 1, z⟩ (drop (goes h (100 + (k : Int))) h.held)) = some e ∧ e.txt = z
    rw [find_after _ (hrise.drop _)]
    by_cases e : i = k
    · subst e
      exact ⟨_, if_pos rfl, rfl⟩
    · rw [if_neg (show ¬ (100 + (i : Int)) = 100 + (k : Int) by omega), find_drop' _ _ _ hrise, if_neg (by omega)]
      exact held i (by omega)
/-- All that there is room for. -/
structure Turn (room : Int) (n m : Nat) (z : ByteArray) (h : Sh) : Prop where
  r : Right h
  room : h.room = room
  clock : h.clock ≤ m
  held : ∀ i : Nat, i < n → ∃ e, find (100 + (i : Int)) h.held = some e ∧ e.txt = z
  len : h.held.length = n
theorem Turn.mono {room : Int} {n m m' : Nat} {z : ByteArray} {h : Sh} (ht : Turn room n m z h) (hm : m ≤ m') : Turn room n m' z h := ⟨ht.r, ht.room, by have := ht.clock; omega, ht.held, ht.len⟩
theorem Fill.turn {room : Int} {m n : Nat} {z : ByteArray} {h : Sh} (hf : Fill room m n z h) (hn : (n : Int) = room) : Turn room n m z h := by
  obtain ⟨r, hroom, clock, ⟨rest, ho, hrest⟩, held⟩ := hf
  refine ⟨r, hroom, clock, held, ?_⟩
  have h1 := order_len r
  rw [ho, List.length_append, tops_length] at h1
  have h2 := r.2.2.2.2.1
  omega
theorem Turn.step {room : Int} {n m : Nat} {z : ByteArray} {h : Sh} (ht : Turn room n m z h) (hm : m ≤ 100000) (i : Nat) (hi : i < n) : ∃ h', take h (100 + (i : Int)) = (z, h', 0) ∧ Turn room n (m + 1) z h' := by
  obtain ⟨r, hroom, clock, held, len⟩ := ht
  have l1 : h.clock < MaxC := by unfold MaxC; omega
  obtain ⟨e, he, hz⟩ := held i hi
  have hrise := r.2.2.2.2.2.2.1
  have hte := take_eq r l1 he
  rw [hz] at hte
  refine ⟨_, hte, take_right r l1 he z, hroom, by show h.clock + 1 ≤ _; omega, fun q hq => ?_, ?_⟩
  · show ∃ e, find (100 + (q : Int)) (put ⟨100 + (i : Int), h.clock + 1, z⟩ h.held) = some e ∧ e.txt = z
    rw [find_after _ hrise]
    split
    · exact ⟨_, rfl, rfl⟩
    · exact held q hq
  · show (put ⟨100 + (i : Int), h.clock + 1, z⟩ h.held).length = n
    obtain ⟨q1, q2⟩ := find_some he
    rcases put_length ⟨100 + (i : Int), h.clock + 1, z⟩ h.held hrise with ⟨e2, _⟩ | ⟨_, hn⟩
    · rw [e2, len]
    · exact absurd q2 (hn e q1)
end Cache
end Go.Proofs.Ytpkhafijmbgcnaa
