/- The plain laws of a shelf of few blocks (chapter 21): lists alone; no program in sight. -/
import Derived.Laws.BitsAllLaws
namespace Go.Proofs.Ytpkhafijmbgcnaa
namespace Cache
set_option linter.unusedVariables false

/-- What is held, and a shelf. -/
structure Hd where
  blk : Int
  st : Int
  txt : ByteArray
deriving Inhabited
structure Sh where
  room : Int
  clock : Int
  held : List Hd
def zero : Sh := ⟨0, 0, []⟩
abbrev MaxC : Int := 1099511627776

/-- The blocks rise. -/
def Rise (l : List Hd) : Prop := l.Pairwise fun x y => x.blk < y.blk
/-- No two have one stamp. -/
def Apart (l : List Hd) : Prop := l.Pairwise fun x y => x.st ≠ y.st
def Good (clock : Int) (l : List Hd) : Prop := (∀ h ∈ l, 0 ≤ h.blk ∧ 1 ≤ h.st ∧ h.st ≤ clock) ∧ Rise l ∧ Apart l
def Right (c : Sh) : Prop := 1 ≤ c.room ∧ c.room ≤ 64 ∧ 0 ≤ c.clock ∧ c.clock ≤ MaxC ∧ (c.held.length : Int) ≤ c.room ∧ Good c.clock c.held
open Classical in
@[irreducible] noncomputable def right (c : Sh) : Bool := decide (Right c)
theorem right_iff (c : Sh) : right c = true ↔ Right c := by unfold right; simp
theorem right_false (c : Sh) : right c = false ↔ ¬ Right c := by unfold right; simp

/-! ### Sorted lists with keys are one -/
theorem sorted_one {α : Type} (k : α → Int) : ∀ (l m : List α), l.Perm m → (l.Pairwise fun x y => k x < k y) → (m.Pairwise fun x y => k x < k y) → l = m
  | [], m, hp, _, _ => by have := hp.symm.eq_nil; exact this.symm
  | x :: l, m, hp, hl, hm => by
    cases m with
    | nil => exact absurd hp.eq_nil (by simp)
    | cons y m =>
      rw [List.pairwise_cons] at hl hm
      have hxy : x = y := by
        have h1 : x ∈ y :: m := hp.subset (by simp)
        have h2 : y ∈ x :: l := hp.symm.subset (by simp)
        rcases List.mem_cons.1 h1 with h | h
        · exact h
        · rcases List.mem_cons.1 h2 with h' | h'
          · exact h'.symm
          · have := hl.1 y h'
            have := hm.1 x h
            omega
      subst hxy
      rw [sorted_one k l m ((List.perm_cons x).1 hp) hl.2 hm.2]

/-! ### What is put in, and taken out -/
def put (h : Hd) : List Hd → List Hd
  | [] => [h]
  | x :: r => if x.blk < h.blk then x :: put h r else if x.blk = h.blk then h :: r else h :: x :: r
def drop (b : Int) (l : List Hd) : List Hd := l.filter fun x => decide (x.blk ≠ b)
def find (b : Int) (l : List Hd) : Option Hd := l.find? fun x => decide (x.blk = b)
theorem mem_drop {b : Int} {l : List Hd} {x : Hd} : x ∈ drop b l ↔ x ∈ l ∧ x.blk ≠ b := by unfold drop; simp
theorem Rise.drop {l : List Hd} (h : Rise l) (b : Int) : Rise (drop b l) := List.Pairwise.filter _ h
theorem Rise.tail {x : Hd} {l : List Hd} (h : Rise (x :: l)) : Rise l := (List.pairwise_cons.1 h).2
theorem Rise.head {x : Hd} {l : List Hd} (h : Rise (x :: l)) : ∀ y ∈ l, x.blk < y.blk := (List.pairwise_cons.1 h).1
theorem mem_put (h : Hd) : ∀ (l : List Hd), Rise l → ∀ x, x ∈ put h l ↔ x = h ∨ (x ∈ l ∧ x.blk ≠ h.blk)
  | [], _, x => by simp [put]
  | y :: r, hr, x => by
    have ih := mem_put h r hr.tail x
    unfold put
    split
    · rename_i h1
      rw [List.mem_cons, ih, List.mem_cons]
      constructor
      · rintro (rfl | rfl | ⟨h2, h3⟩)
        · exact .inr ⟨.inl rfl, by omega⟩
        · exact .inl rfl
        · exact .inr ⟨.inr h2, h3⟩
      · rintro (rfl | ⟨rfl | h2, h3⟩)
        · exact .inr (.inl rfl)
        · exact .inl rfl
        · exact .inr (.inr ⟨h2, h3⟩)
    · split
      · rename_i h1 h2
        rw [List.mem_cons, List.mem_cons]
        constructor
        · rintro (rfl | h3)
          · exact .inl rfl
          · have := hr.head x h3
            exact .inr ⟨.inr h3, by omega⟩
        · rintro (rfl | ⟨rfl | h3, h4⟩)
          · exact .inl rfl
          · exact absurd h2 h4
          · exact .inr h3
      · rename_i h1 h2
        rw [List.mem_cons, List.mem_cons]
        constructor
        · rintro (rfl | rfl | h3)
          · exact .inl rfl
          · exact .inr ⟨.inl rfl, h2⟩
          · have := hr.head x h3
            exact .inr ⟨.inr h3, by omega⟩
        · rintro (rfl | ⟨h3, h4⟩)
          · exact .inl rfl
          · exact .inr h3
theorem Rise.put {l : List Hd} (hr : Rise l) (h : Hd) : Rise (put h l) := by
  induction l with
  | nil => simp [Cache.put, Rise]
  | cons y r ih =>
    unfold Cache.put
    split
    · rename_i h1
      refine List.pairwise_cons.2 ⟨fun x hx => ?_, ih hr.tail⟩
      rcases (mem_put h r hr.tail x).1 hx with rfl | ⟨h2, _⟩
      · exact h1
      · exact hr.head x h2
    · split
      · rename_i h1 h2
        exact List.pairwise_cons.2 ⟨fun x hx => by have := hr.head x hx; omega, hr.tail⟩
      · rename_i h1 h2
        refine List.pairwise_cons.2 ⟨fun x hx => ?_, hr⟩
        rcases List.mem_cons.1 hx with rfl | hx
        · omega
        · have := hr.head x hx; omega
theorem put_length (h : Hd) : ∀ l : List Hd, Rise l → ((put h l).length = l.length ∧ ∃ x ∈ l, x.blk = h.blk) ∨ ((put h l).length = l.length + 1 ∧ ∀ x ∈ l, x.blk ≠ h.blk)
  | [], _ => .inr ⟨rfl, fun x hx => by cases hx⟩
  | y :: r, hr => by
    unfold put
    split
    · rename_i h1
      rcases put_length h r hr.tail with ⟨k1, x, hx, k2⟩ | ⟨k1, k2⟩
      · exact .inl ⟨by simp [k1], x, List.mem_cons_of_mem _ hx, k2⟩
      · refine .inr ⟨by simp [k1], fun x hx => ?_⟩
        rcases List.mem_cons.1 hx with rfl | hx
        · omega
        · exact k2 x hx
    · split
      · rename_i h1 h2
        exact .inl ⟨rfl, y, by simp, h2⟩
      · rename_i h1 h2
        refine .inr ⟨rfl, fun x hx => ?_⟩
        rcases List.mem_cons.1 hx with rfl | hx
        · exact h2
        · have := hr.head x hx; omega
theorem Rise.nodup {l : List Hd} (h : Rise l) : (l.map Hd.blk).Nodup := by
  rw [List.nodup_iff_pairwise_ne, List.pairwise_map]
  exact h.imp fun h => by omega
/-- Two rising lists that hold the same are one. -/
theorem rise_ext {l m : List Hd} (hl : Rise l) (hm : Rise m) (h : ∀ x, x ∈ l ↔ x ∈ m) : l = m := by
  refine sorted_one Hd.blk l m ?_ hl hm
  have nd : ∀ {l : List Hd}, Rise l → l.Nodup := fun h => by
    rw [List.nodup_iff_pairwise_ne]
    exact h.imp fun h e => by rw [e] at h; omega
  exact (List.perm_ext_iff_of_nodup (nd hl) (nd hm)).2 h
theorem find_some {b : Int} {l : List Hd} {h : Hd} (e : find b l = some h) : h ∈ l ∧ h.blk = b := by
  unfold find at e
  exact ⟨List.mem_of_find?_eq_some e, by simpa using List.find?_some e⟩
theorem find_none {b : Int} {l : List Hd} (e : find b l = none) : ∀ x ∈ l, x.blk ≠ b := by
  unfold find at e
  rw [List.find?_eq_none] at e
  intro x hx h
  exact e x hx (by simpa using h)
theorem find_of_mem {b : Int} {l : List Hd} {h : Hd} (hr : Rise l) (hm : h ∈ l) (hb : h.blk = b) : find b l = some h := by
  induction l with
  | nil => cases hm
  | cons y r ih =>
    unfold find
    rw [List.find?_cons]
    by_cases hy : y.blk = b
    · rw [decide_eq_true hy]
      rcases List.mem_cons.1 hm with rfl | hm
      · rfl
      · have := hr.head h hm; omega
    · rw [decide_eq_false hy]
      rcases List.mem_cons.1 hm with rfl | hm
      · exact absurd hb hy
      · exact ih hr.tail hm

/-! ### The order in which they were used -/
def ord (l : List Hd) : List Hd := l.mergeSort fun x y => decide (y.st ≤ x.st)
theorem ord_perm (l : List Hd) : (ord l).Perm l := List.mergeSort_perm _ _
theorem ord_sorted (l : List Hd) (h : Apart l) : (ord l).Pairwise fun x y => y.st < x.st := by
  have h1 : (ord l).Pairwise fun x y => decide (y.st ≤ x.st) = true := List.pairwise_mergeSort (fun a b c h1 h2 => by simp at h1 h2 ⊢; omega) (fun a b => by simp; omega) l
  have h2 : (ord l).Pairwise fun x y => x.st ≠ y.st := (List.Perm.pairwise_iff (fun h => Ne.symm h) (ord_perm l)).2 h
  exact (h1.and h2).imp fun ⟨a, b⟩ => by simp at a; omega
theorem ord_one {l m : List Hd} (h : Apart l) (hp : m.Perm l) (hs : m.Pairwise fun x y => y.st < x.st) : m = ord l :=
  sorted_one (fun x => -x.st) m (ord l) (hp.trans (ord_perm l).symm) (hs.imp fun h => by omega) ((ord_sorted l h).imp fun h => by omega)
theorem ord_length (l : List Hd) : (ord l).length = l.length := (ord_perm l).length_eq
open Classical in
noncomputable def order (c : Sh) : List Int := if right c = true then (ord c.held).map Hd.blk else []

/-! ### Take and Keep -/
def after (c : Sh) (l : List Hd) (b : Int) (t : ByteArray) : Sh := ⟨c.room, c.clock + 1, put ⟨b, c.clock + 1, t⟩ l⟩
noncomputable def take (c : Sh) (b : Int) : ByteArray × Sh × Int :=
  if right c = true then
    match find b c.held with
    | none => (⟨#[]⟩, zero, 5)
    | some h => if c.clock = MaxC then (⟨#[]⟩, zero, 4) else (h.txt, after c c.held b h.txt, 0)
  else (⟨#[]⟩, zero, 1)
/-- Which one goes. -/
noncomputable def goes (c : Sh) (b : Int) : Int := if (find b c.held).isNone = true ∧ (c.held.length : Int) = c.room then (order c).getLastD (-1) else -1
noncomputable def keep (c : Sh) (b : Int) (t : ByteArray) : Int × Sh × Int :=
  if right c = true ∧ 0 ≤ b then
    if c.clock = MaxC then (0, zero, 4) else (goes c b, after c (drop (goes c b) c.held) b t, 0)
  else (0, zero, 1)
theorem drop_none (l : List Hd) (b : Int) (h : ∀ x ∈ l, x.blk ≠ b) : drop b l = l := by
  unfold drop
  rw [List.filter_eq_self]
  intro x hx
  simpa using h x hx
end Cache
end Go.Proofs.Ytpkhafijmbgcnaa
