/- A shelf that lies in a cell; the first calls (chapter 21's law texts). -/
import Derived.Test.YtpkhafijmbgcnaaDKit
import Derived.Test.YtpkhafijmbgcnaaDPlain
namespace Go.Proofs.Ytpkhafijmbgcnaa
namespace Cache
open Go.RowKit Go.Shelf
set_option linter.unusedVariables false

abbrev put3 (w : World) (B : Nat) (x y z : Value) : World := ((w.setCell ⟨B, 0, none⟩ x).setCell ⟨B, 1, none⟩ y).setCell ⟨B, 2, none⟩ z
abbrev shobj (c : Sh) (a : Option Addr) (k : Nat) : Obj := .cells #[.int .i64 c.room, .int .i64 c.clock, .slice a c.held.length k] TS (0, 0)
theorem put3_heap {w : World} {B : Nat} {x y z u v t : Value} (h : w.heap[B]? = some (.cells #[u, v, t] TS (0, 0))) : (put3 w B x y z).heap[B]? = some (.cells #[x, y, z] TS (0, 0)) := by
  simp [put3, World.setCell, Array.getElem?_modify, h]
theorem put3_far {w : World} {B k : Nat} {x y z : Value} (h : k ≠ B) : (put3 w B x y z).heap[k]? = w.heap[k]? := by
  have h' : B ≠ k := fun e => h e.symm
  simp [put3, World.setCell, Array.getElem?_modify, h']
theorem put3_size {w : World} {B : Nat} {x y z : Value} : (put3 w B x y z).heap.size = w.heap.size := by simp [put3]
/-- Elements that are held are not in a shelf's own cell. -/
theorem HSrc.apart {w : World} {a : Option Addr} {l : List Hd} {B : Nat} {u v : Value} {p : Option Addr} {n k : Nat} {x : Int} (hu : u = .int .i64 x) (hs : HSrc w a l) (h : w.heap[B]? = some (.cells #[u, v, .slice p n k] TS (0, 0))) (j : Nat) (y : Hd) (hj : l[j]? = some y) : ∀ b off, a = some ⟨b, off, none⟩ → b ≠ B := by
  intro b off ha e
  subst e
  obtain ⟨b', off', ha', h0, h1, h2⟩ := hs j y hj
  rw [ha] at ha'
  injection ha' with ha'
  injection ha' with e1 e2
  subst e1 e2
  have g : ∀ i, w.cell? ⟨b, i, none⟩ = #[u, v, .slice p n k][i]? := by intro i; simp [World.cell?, h]
  rw [g] at h0 h1 h2
  have hi : off + j * 3 + 2 < 3 := by
    rcases Nat.lt_or_ge (off + j * 3 + 2) 3 with h3 | h3
    · exact h3
    · rw [Array.getElem?_eq_none (by simpa using h3)] at h2; cases h2
  have e0 : off + j * 3 = 0 := by omega
  rw [e0] at h2
  simp at h2
theorem HSrc.put3 {w : World} {a : Option Addr} {l : List Hd} {B : Nat} {u v : Value} {p : Option Addr} {n k : Nat} {m : Int} (hu : u = .int .i64 m) (hs : HSrc w a l) (h : w.heap[B]? = some (.cells #[u, v, .slice p n k] TS (0, 0))) (x y z : Value) : HSrc (put3 w B x y z) a l := by
  intro j t ht
  obtain ⟨b, off, ha, h0, h1, h2⟩ := hs j t ht
  have hne := HSrc.apart hu hs h j t ht b off ha
  have hc : ∀ i, (Cache.put3 w B x y z).cell? ⟨b, i, none⟩ = w.cell? ⟨b, i, none⟩ := fun i => World.cell?_of_block (put3_far hne)
  exact ⟨b, off, ha, by rw [hc]; exact h0, by rw [hc]; exact h1, by rw [hc]; exact h2⟩
structure CellSh (w : World) (B : Nat) (c : Sh) (a : Option Addr) (k : Nat) : Prop where
  blk : w.heap[B]? = some (shobj c a k)
  sh : ShW w c a k
theorem CellSh.lt {w : World} {B : Nat} {c : Sh} {a : Option Addr} {k : Nat} (h : CellSh w B c a k) : B < w.heap.size := (Array.getElem?_eq_some_iff.1 h.blk).1
/-- The three cells, and that they may be written. -/
structure Cells3 (w : World) (B : Nat) (u v t : Value) : Prop where
  x0 : w.cell? ⟨B, 0, none⟩ = some u
  x1 : w.cell? ⟨B, 1, none⟩ = some v
  x2 : w.cell? ⟨B, 2, none⟩ = some t
  f0 : w.frozen? ⟨B, 0, none⟩ = false
  f1 : w.frozen? ⟨B, 1, none⟩ = false
  f2 : w.frozen? ⟨B, 2, none⟩ = false
theorem Cells3.of {w : World} {B : Nat} {u v t : Value} (h : w.heap[B]? = some (.cells #[u, v, t] TS (0, 0))) : Cells3 w B u v t := by
  refine ⟨?_, ?_, ?_, ?_, ?_, ?_⟩ <;> simp [World.cell?, World.frozen?, h]
theorem CellSh.cells {w : World} {B : Nat} {c : Sh} {a : Option Addr} {k : Nat} (h : CellSh w B c a k) : Cells3 w B (.int .i64 c.room) (.int .i64 c.clock) (.slice a c.held.length k) := Cells3.of h.blk
theorem CellSh.below {w w' : World} {B D : Nat} {c : Sh} {a : Option Addr} {k : Nat} (h : CellSh w B c a k) (hb : Below D w w') (hD : D = w.heap.size) : CellSh w' B c a k := by
  subst hD
  exact ⟨(hb.block B h.lt).trans h.blk, h.sh.below hb rfl⟩
theorem CellSh.new {w : World} {c : Sh} {a : Option Addr} {k : Nat} (h : ShW w c a k) : CellSh (w.alloc (.cells #[.int .i64 c.room, .int .i64 c.clock, .slice a c.held.length k] TS)) w.heap.size c a k :=
  ⟨World.alloc_heap_new _ _, h.below ((Below.refl _ _).alloc (Nat.le_refl _) _) rfl⟩
theorem ShW.put3 {w : World} {B : Nat} {c c' : Sh} {a a' : Option Addr} {k k' : Nat} (h : ShW w c' a' k') (g : CellSh w B c a k) (x y z : Value) : ShW (put3 w B x y z) c' a' k' := ⟨h.src.put3 rfl g.blk x y z, h.nil, h.wf⟩
theorem CellSh.set {w : World} {B : Nat} {c c' : Sh} {a a' : Option Addr} {k k' : Nat} (g : CellSh w B c a k) (h : ShW w c' a' k') : CellSh (put3 w B (.int .i64 c'.room) (.int .i64 c'.clock) (.slice a' c'.held.length k')) B c' a' k' :=
  ⟨put3_heap g.blk, h.put3 g _ _ _⟩
theorem CellSh.far {w : World} {B D : Nat} {c c' : Sh} {a a' : Option Addr} {k k' : Nat} (g : CellSh w B c a k) (h : CellSh w D c' a' k') (hne : D ≠ B) (x y z : Value) : CellSh (put3 w B x y z) D c' a' k' :=
  ⟨(put3_far hne).trans h.blk, h.sh.put3 g x y z⟩
theorem Below.put3 {D B : Nat} {w w' : World} (h : Below D w w') (hB : D ≤ B) (x y z : Value) : Below D w (put3 w' B x y z) := Below.set3 h hB x y z

/-! ### The contracts, with the shelf laid open -/
theorem new_lit (room : Int) {c : Sh} {e0 : Int} (h1 : newS room = c) (h2 : newE room = e0) (w : World) :
    Calls Try.prog 11 #[.int .i64 room] w fun e w' => e = .returned (.tuple #[.agg #[.int .i64 c.room, .int .i64 c.clock, .slice none c.held.length 0], .int .i64 e0]) ∧ ShW w' c none 0 ∧ Below w.heap.size w w' := by
  have hh : (newS room).held = [] := by unfold newS; split <;> rfl
  subst h1 h2
  exact (new_any room w).mono fun e w' h => ⟨h.1, ⟨by rw [hh]; exact HSrc.nil _ _, fun _ => ⟨by rw [hh]; rfl, rfl⟩, by rw [hh]; exact fun h hh => by cases hh⟩, h.2⟩
theorem rnew_lit (room : Int) {c : Sh} {e0 : Int} (h1 : newS room = c) (h2 : newE room = e0) (w : World) :
    Calls Try.prog 12 #[.int .i64 room] w fun e w' => e = .returned (.tuple #[.agg #[.int .i64 c.room, .int .i64 c.clock, .slice none c.held.length 0], .int .i64 e0]) ∧ ShW w' c none 0 ∧ Below w.heap.size w w' := by
  have hh : (newS room).held = [] := by unfold newS; split <;> rfl
  subst h1 h2
  exact (rnew_any room w).mono fun e w' h => ⟨h.1, ⟨by rw [hh]; exact HSrc.nil _ _, fun _ => ⟨by rw [hh]; rfl, rfl⟩, by rw [hh]; exact fun h hh => by cases hh⟩, h.2⟩
theorem newS_of {room : Int} (h1 : 1 ≤ room) (h2 : room ≤ 64) : newS room = ⟨room, 0, []⟩ := by unfold newS; rw [if_pos ((right_new room).2 ⟨h1, h2⟩)]
theorem newE_of {room : Int} (h1 : 1 ≤ room) (h2 : room ≤ 64) : newE room = 0 := by unfold newE; rw [if_pos ((right_new room).2 ⟨h1, h2⟩)]
theorem newS_not {room : Int} (h : ¬ (1 ≤ room ∧ room ≤ 64)) : newS room = zero := by unfold newS; rw [if_neg (fun e => h ((right_new room).1 e))]
theorem newE_not {room : Int} (h : ¬ (1 ≤ room ∧ room ≤ 64)) : newE room = 1 := by unfold newE; rw [if_neg (fun e => h ((right_new room).1 e))]
theorem ShW.empty (w : World) (room clock : Int) : ShW w ⟨room, clock, []⟩ none 0 := ⟨HSrc.nil _ _, fun _ => ⟨rfl, rfl⟩, fun h hh => by cases hh⟩
theorem take_lit (c : Sh) (a : Option Addr) (k : Nat) (b : Int) {s : ByteArray} {c' : Sh} {cd : Int} (h : take c b = (s, c', cd)) (w : World) (hm : c.held.length ≤ 1000000) (hs : ShW w c a k) (hb0 : -9223372036854775808 ≤ b) (hb1 : b ≤ 9223372036854775807) :
    Calls Try.prog 21 #[.agg #[.int .i64 c.room, .int .i64 c.clock, .slice a c.held.length k], .int .i64 b] w fun e w' => ∃ a' k', e = .returned (.tuple #[.string s, .agg #[.int .i64 c'.room, .int .i64 c'.clock, .slice a' c'.held.length k'], .int .i64 cd]) ∧ ShW w' c' a' k' ∧ Below w.heap.size w w' := by
  have h' := take_any c a k b w hm hs hb0 hb1
  rw [h] at h'
  exact h'
theorem keep_lit (c : Sh) (a : Option Addr) (k : Nat) (b : Int) (t : ByteArray) {g : Int} {c' : Sh} {cd : Int} (h : keep c b t = (g, c', cd)) (w : World) (hm : c.held.length ≤ 1000000) (hs : ShW w c a k) (hb0 : -9223372036854775808 ≤ b) (hb1 : b ≤ 9223372036854775807) :
    Calls Try.prog 23 #[.agg #[.int .i64 c.room, .int .i64 c.clock, .slice a c.held.length k], .int .i64 b, .string t] w fun e w' => ∃ a' k', e = .returned (.tuple #[.int .i64 g, .agg #[.int .i64 c'.room, .int .i64 c'.clock, .slice a' c'.held.length k'], .int .i64 cd]) ∧ ShW w' c' a' k' ∧ Below w.heap.size w w' := by
  have h' := keep_any c a k b t w hm hs hb0 hb1
  rw [h] at h'
  exact h'
theorem rtake_lit (c : Sh) (a : Option Addr) (k : Nat) (b : Int) {s : ByteArray} {c' : Sh} {cd : Int} (h : take c b = (s, c', cd)) (w : World) (hm : c.held.length ≤ 1000000) (hs : ShW w c a k) (hb0 : -9223372036854775808 ≤ b) (hb1 : b ≤ 9223372036854775807) :
    Calls Try.prog 22 #[.agg #[.int .i64 c.room, .int .i64 c.clock, .slice a c.held.length k], .int .i64 b] w fun e w' => ∃ a' k', e = .returned (.tuple #[.string s, .agg #[.int .i64 c'.room, .int .i64 c'.clock, .slice a' c'.held.length k'], .int .i64 cd]) ∧ ShW w' c' a' k' ∧ Below w.heap.size w w' := by
  have h' := rtake_any c a k b w hm hs hb0 hb1
  rw [h] at h'
  exact h'
theorem rkeep_lit (c : Sh) (a : Option Addr) (k : Nat) (b : Int) (t : ByteArray) {g : Int} {c' : Sh} {cd : Int} (h : keep c b t = (g, c', cd)) (w : World) (hm : c.held.length ≤ 1000000) (hs : ShW w c a k) (hb0 : -9223372036854775808 ≤ b) (hb1 : b ≤ 9223372036854775807) :
    Calls Try.prog 24 #[.agg #[.int .i64 c.room, .int .i64 c.clock, .slice a c.held.length k], .int .i64 b, .string t] w fun e w' => ∃ a' k', e = .returned (.tuple #[.int .i64 g, .agg #[.int .i64 c'.room, .int .i64 c'.clock, .slice a' c'.held.length k'], .int .i64 cd]) ∧ ShW w' c' a' k' ∧ Below w.heap.size w w' := by
  have h' := rkeep_any c a k b t w hm hs hb0 hb1
  rw [h] at h'
  exact h'
theorem order_lit (c : Sh) (a : Option Addr) (k : Nat) {l : List Int} (h : order c = l) (w : World) (hm : c.held.length ≤ 1000000) (hs : HSrc w a c.held) :
    Calls Try.prog 19 #[.agg #[.int .i64 c.room, .int .i64 c.clock, .slice a c.held.length k]] w fun e w' => ∃ a' k', e = .returned (.slice a' l.length k') ∧ Kit.Own w' w.heap.size TI a' l.length k' (l.map inum) ∧ Below w.heap.size w w' := by
  subst h
  refine (order_any c a k w hm hs).mono fun e w' ⟨a', n, k', h1, h2, h3⟩ => ?_
  have hn : n = (order c).length := by have := h2.len; rw [List.length_map] at this; omega
  subst hn
  exact ⟨a', k', h1, h2, h3⟩
theorem right_lit (c : Sh) (a : Option Addr) (k : Nat) {b : Bool} (h : right c = b) (w : World) (hm : c.held.length ≤ maxLen) (hs : HSrc w a c.held) :
    Calls Try.prog 16 #[.agg #[.int .i64 c.room, .int .i64 c.clock, .slice a c.held.length k]] w fun e w' => e = .returned (.bool b) ∧ Below w.heap.size w w' := by
  subst h
  exact right_any c a k w hm hs
theorem ints_lit (p q : Option Addr) (c d : Nat) (l : List Int) {n m : Nat} (hn : l.length = n) (hm : l.length = m) (hl : l.length ≤ 1000000) (w : World) (h1 : Kit.Src w p (l.map inum)) (h2 : Kit.Src w q (l.map inum)) :
    Calls Try.prog 18 #[.slice p n c, .slice q m d] w fun e w' => e = .returned (.bool true) ∧ Below w.heap.size w w' := by
  refine (ints_any p q c d n m l l hn hm (by omega) (by omega) w h1 h2).mono fun e w' h => ⟨?_, h.2⟩
  rw [h.1, decide_eq_true rfl]

/-! ### The first calls -/
def e0 : Sh := ⟨2, 0, []⟩
def e1 : Sh := ⟨2, 1, [⟨5, 1, ⟨#[120]⟩⟩]⟩
def e2 : Sh := ⟨2, 2, [⟨3, 2, ⟨#[121]⟩⟩, ⟨5, 1, ⟨#[120]⟩⟩]⟩
def e3 : Sh := ⟨2, 3, [⟨3, 2, ⟨#[121]⟩⟩, ⟨5, 3, ⟨#[120]⟩⟩]⟩
def e4 : Sh := ⟨2, 4, [⟨5, 3, ⟨#[120]⟩⟩, ⟨9, 4, ⟨#[122]⟩⟩]⟩
theorem src_two (w : World) (x y : Int) : Kit.Src (w.alloc (.cells #[.int .i64 x, .int .i64 y] TI)) (some ⟨w.heap.size, 0, none⟩) ([x, y].map inum) := by
  intro j u hu
  match j, hu with
  | 0, hu => exact ⟨_, _, rfl, by simp at hu; subst hu; simp [inum]⟩
  | 1, hu => exact ⟨_, _, rfl, by simp at hu; subst hu; simp [inum]⟩
theorem e0_right : Right e0 := by unfold Right Good Rise Apart MaxC e0; simp
theorem e1_right : Right e1 := by unfold Right Good Rise Apart MaxC e1; simp
theorem e2_right : Right e2 := by unfold Right Good Rise Apart MaxC e2; simp
theorem e3_right : Right e3 := by unfold Right Good Rise Apart MaxC e3; simp
theorem e4_right : Right e4 := by unfold Right Good Rise Apart MaxC e4; simp
theorem zero_right : right zero = false := by rw [right_false]; unfold Right zero; simp
theorem e3_order : order e3 = [5, 3] := by
  rw [order_of e3_right, ← ord_one (m := [⟨5, 3, ⟨#[120]⟩⟩, ⟨3, 2, ⟨#[121]⟩⟩]) e3_right.2.2.2.2.2.2.2 (List.Perm.swap _ _ _) (by simp)]
  rfl
theorem e4_order : order e4 = [9, 5] := by
  rw [order_of e4_right, ← ord_one (m := [⟨9, 4, ⟨#[122]⟩⟩, ⟨5, 3, ⟨#[120]⟩⟩]) e4_right.2.2.2.2.2.2.2 (List.Perm.swap _ _ _) (by simp)]
  rfl
theorem e1_keep : keep e0 5 ⟨#[120]⟩ = (-1, e1, 0) := by
  rw [keep_eq e0_right (by decide) 5 (by decide), goes_none (by decide)]
  rfl
theorem e2_keep : keep e1 3 ⟨#[121]⟩ = (-1, e2, 0) := by
  rw [keep_eq e1_right (by decide) 3 (by decide), goes_none (by decide)]
  rfl
theorem e3_take : take e2 5 = (⟨#[120]⟩, e3, 0) := by
  rw [take_eq e2_right (by decide) (h := ⟨5, 1, ⟨#[120]⟩⟩) rfl]
  rfl
theorem e4_keep : keep e3 9 ⟨#[122]⟩ = (3, e4, 0) := by
  obtain ⟨hne, hg⟩ := goes_last e3_right (b := 9) rfl rfl
  have : goes e3 9 = 3 := by
    rw [hg]
    simp [e3_order]
  rw [keep_eq e3_right (by decide) 9 (by decide), this]
  rfl
theorem e4_take : take e4 3 = (⟨#[]⟩, zero, 5) := take_none e4_right rfl
theorem e4_keep_not : keep e4 (-1) ⟨#[]⟩ = (0, zero, 1) := by
  unfold keep
  rw [if_neg]
  rintro ⟨_, h⟩
  exact absurd h (by decide)

set_option maxRecDepth 100000 in
set_option maxHeartbeats 4000000 in
theorem awake_any (w : World) : Calls Try.prog 9 #[] w fun e w' => e = .returned (.bool true) ∧ Below w.heap.size w w' := by
  obtain ⟨c0, hc0⟩ : ∃ c, c = e0 := ⟨_, rfl⟩
  obtain ⟨c1, hc1⟩ : ∃ c, c = e1 := ⟨_, rfl⟩
  obtain ⟨c2, hc2⟩ : ∃ c, c = e2 := ⟨_, rfl⟩
  obtain ⟨c3, hc3⟩ : ∃ c, c = e3 := ⟨_, rfl⟩
  obtain ⟨c4, hc4⟩ : ∃ c, c = e4 := ⟨_, rfl⟩
  obtain ⟨z, hz⟩ : ∃ c, c = zero := ⟨_, rfl⟩
  have L0 := Lib.hid (show c0.held.length ≤ 1000000 by rw [hc0]; decide)
  have L1 := Lib.hid (show c1.held.length ≤ 1000000 by rw [hc1]; decide)
  have L2 := Lib.hid (show c2.held.length ≤ 1000000 by rw [hc2]; decide)
  have L3 := Lib.hid (show c3.held.length ≤ 1000000 by rw [hc3]; decide)
  have L4 := Lib.hid (show c4.held.length ≤ 1000000 by rw [hc4]; decide)
  have N0 := Lib.hid (show newS 2 = c0 by rw [hc0, newS_of (by decide) (by decide)]; rfl)
  have N0' := Lib.hid (newE_of (room := 2) (by decide) (by decide))
  have K1 := Lib.hid (show keep c0 5 ⟨#[120]⟩ = (-1, c1, 0) by rw [hc0, hc1]; exact e1_keep)
  have K2 := Lib.hid (show keep c1 3 ⟨#[121]⟩ = (-1, c2, 0) by rw [hc1, hc2]; exact e2_keep)
  have T3 := Lib.hid (show take c2 5 = (⟨#[120]⟩, c3, 0) by rw [hc2, hc3]; exact e3_take)
  have K4 := Lib.hid (show keep c3 9 ⟨#[122]⟩ = (3, c4, 0) by rw [hc3, hc4]; exact e4_keep)
  have T5 := Lib.hid (show take c4 3 = (⟨#[]⟩, z, 5) by rw [hc4, hz]; exact e4_take)
  have K6 := Lib.hid (show keep c4 (-1) ⟨#[]⟩ = (0, z, 1) by rw [hc4, hz]; exact e4_keep_not)
  have N7 := Lib.hid (show newS 0 = z by rw [hz]; exact newS_not (by decide))
  have N7' := Lib.hid (newE_not (room := 0) (by decide))
  have O4 := Lib.hid (show order c4 = [9, 5] by rw [hc4]; exact e4_order)
  have R4 := Lib.hid (show right c4 = true by rw [hc4]; exact (right_iff _).2 e4_right)
  have RZ := Lib.hid (show ∀ w', Calls Try.prog 16 #[.agg #[.int .i64 0, .int .i64 0, .slice none 0 0]] w' fun e w'' => e = .returned (.bool false) ∧ Below w'.heap.size w' w'' from fun w' => right_lit zero none 0 zero_right w' (by decide) (HSrc.nil _ _))
  have CK := Lib.hid (show c4.clock = 4 by rw [hc4]; rfl)
  clear hc0 hc1 hc2 hc3 hc4 hz
  go_enter Try.func9, Try.ntmps9
  go_wp2_with fail
  refine (new_lit 2 N0.out N0'.out _).mono ?_
  rintro e w1 ⟨rfl, s1, b1⟩
  have C1 := CellSh.new s1
  obtain ⟨B, hB⟩ : ∃ B, w1.heap.size = B := ⟨_, rfl⟩
  have hBw : w.heap.size ≤ B := by have := b1.size; omega
  have BL1 := Lib.hid (b1.alloc (by omega) (.cells #[.int .i64 c0.room, .int .i64 c0.clock, .slice none c0.held.length 0] TS))
  have CC1 := Lib.hid C1
  rw [hB] at CC1
  obtain ⟨x0, x1, x2, f0, f1, f2⟩ := C1.cells
  clear b1 s1 C1
  go_wp2_with fail
  clear hB x0 x1 x2 f0 f1 f2
  refine (keep_lit c0 _ _ 5 ⟨#[120]⟩ K1.out _ L0.out CC1.out.sh (by decide) (by decide)).mono ?_
  rintro e w2 ⟨a2, k2, rfl, s2, b2⟩
  have D2 := Lib.hid (CC1.out.below b2 rfl)
  have CC2 := Lib.hid (D2.out.set s2)
  have BL2 := Lib.hid (Below.put3 (BL1.out.trans (b2.mono BL1.out.size)) hBw (.int .i64 c1.room) (.int .i64 c1.clock) (.slice a2 c1.held.length k2))
  obtain ⟨x0, x1, x2, f0, f1, f2⟩ := D2.out.cells
  clear b2 s2
  go_wp2_with fail
  clear x0 x1 x2 f0 f1 f2
  refine (keep_lit c1 _ _ 3 ⟨#[121]⟩ K2.out _ L1.out CC2.out.sh (by decide) (by decide)).mono ?_
  rintro e w3 ⟨a3, k3, rfl, s3, b3⟩
  have D3 := Lib.hid (CC2.out.below b3 rfl)
  have CC3 := Lib.hid (D3.out.set s3)
  have BL3 := Lib.hid (Below.put3 (BL2.out.trans (b3.mono BL2.out.size)) hBw (.int .i64 c2.room) (.int .i64 c2.clock) (.slice a3 c2.held.length k3))
  obtain ⟨x0, x1, x2, f0, f1, f2⟩ := D3.out.cells
  clear b3 s3
  go_wp2_with fail
  clear x0 x1 x2 f0 f1 f2
  refine (take_lit c2 _ _ 5 T3.out _ L2.out CC3.out.sh (by decide) (by decide)).mono ?_
  rintro e w4 ⟨a4, k4, rfl, s4, b4⟩
  have D4 := Lib.hid (CC3.out.below b4 rfl)
  have CC4 := Lib.hid (D4.out.set s4)
  have BL4 := Lib.hid (Below.put3 (BL3.out.trans (b4.mono BL3.out.size)) hBw (.int .i64 c3.room) (.int .i64 c3.clock) (.slice a4 c3.held.length k4))
  obtain ⟨x0, x1, x2, f0, f1, f2⟩ := D4.out.cells
  clear b4 s4
  go_wp2_with fail
  clear x0 x1 x2 f0 f1 f2
  refine (keep_lit c3 _ _ 9 ⟨#[122]⟩ K4.out _ L3.out CC4.out.sh (by decide) (by decide)).mono ?_
  rintro e w5 ⟨a5, k5, rfl, s5, b5⟩
  have D5 := Lib.hid (CC4.out.below b5 rfl)
  have CC5 := Lib.hid (D5.out.set s5)
  have BL5 := Lib.hid (Below.put3 (BL4.out.trans (b5.mono BL4.out.size)) hBw (.int .i64 c4.room) (.int .i64 c4.clock) (.slice a5 c4.held.length k5))
  obtain ⟨x0, x1, x2, f0, f1, f2⟩ := D5.out.cells
  clear b5 s5
  go_wp2_with fail
  clear x0 x1 x2 f0 f1 f2
  refine (take_lit c4 _ _ 3 T5.out _ L4.out CC5.out.sh (by decide) (by decide)).mono ?_
  rintro e w6 ⟨a6, k6, rfl, s6, b6⟩
  have CC6 := Lib.hid ((CC5.out.below b6 rfl).below ((Below.refl _ _).alloc (Nat.le_refl _) (.cells #[.int .i64 z.room, .int .i64 z.clock, .slice a6 z.held.length k6] TS)) rfl)
  have BL6 := Lib.hid ((BL5.out.trans (b6.mono BL5.out.size)).alloc (Nat.le_trans BL5.out.size b6.size) (.cells #[.int .i64 z.room, .int .i64 z.clock, .slice a6 z.held.length k6] TS))
  obtain ⟨x0, x1, x2, f0, f1, f2⟩ := CC6.out.cells
  clear b6 s6
  go_wp2_with fail
  clear x0 x1 x2 f0 f1 f2
  refine (new_lit 0 N7.out N7'.out _).mono ?_
  rintro e w7 ⟨rfl, s7, b7⟩
  have CC7 := Lib.hid ((CC6.out.below b7 rfl).below ((Below.refl _ _).alloc (Nat.le_refl _) (.cells #[.int .i64 z.room, .int .i64 z.clock, .slice none z.held.length 0] TS)) rfl)
  have BL7 := Lib.hid ((BL6.out.trans (b7.mono BL6.out.size)).alloc (Nat.le_trans BL6.out.size b7.size) (.cells #[.int .i64 z.room, .int .i64 z.clock, .slice none z.held.length 0] TS))
  obtain ⟨x0, x1, x2, f0, f1, f2⟩ := CC7.out.cells
  clear b7 s7
  go_wp2_with fail
  clear x0 x1 x2 f0 f1 f2
  refine (keep_lit c4 _ _ (-1) ⟨#[]⟩ K6.out _ L4.out CC7.out.sh (by decide) (by decide)).mono ?_
  rintro e w8 ⟨a8, k8, rfl, s8, b8⟩
  have CC8 := Lib.hid ((CC7.out.below b8 rfl).below ((Below.refl _ _).alloc (Nat.le_refl _) (.cells #[.int .i64 z.room, .int .i64 z.clock, .slice a8 z.held.length k8] TS)) rfl)
  have BL8 := Lib.hid ((BL7.out.trans (b8.mono BL7.out.size)).alloc (Nat.le_trans BL7.out.size b8.size) (.cells #[.int .i64 z.room, .int .i64 z.clock, .slice a8 z.held.length k8] TS))
  obtain ⟨x0, x1, x2, f0, f1, f2⟩ := CC8.out.cells
  clear b8 s8
  go_wp2_with fail
  clear x0 x1 x2 f0 f1 f2
  refine (order_lit c4 _ _ O4.out _ L4.out CC8.out.sh.src).mono ?_
  rintro e w20 ⟨a20, k20, rfl, s20, b20⟩
  have CC20 := Lib.hid (CC8.out.below b20 rfl)
  have BL20 := Lib.hid (BL8.out.trans (b20.mono BL8.out.size))
  have S20 := Lib.hid (s20.src.below ((Below.refl _ _).alloc (Nat.le_refl _) (.cells #[.int .i64 9, .int .i64 5] TI)))
  have z20 := BL20.out.size
  clear b20 s20
  go_wp2_with fail
  refine (ints_lit a20 _ k20 _ [9, 5] rfl rfl (by decide) _ S20.out (src_two w20 9 5)).mono ?_
  rintro e w21 ⟨rfl, b21⟩
  have CC21 := Lib.hid ((CC20.out.below ((Below.refl _ _).alloc (Nat.le_refl _) (.cells #[.int .i64 9, .int .i64 5] TI)) rfl).below b21 rfl)
  have BL21 := Lib.hid ((BL20.out.alloc z20 (.cells #[.int .i64 9, .int .i64 5] TI)).trans (b21.mono (by rw [size_alloc']; omega)))
  obtain ⟨x0, x1, x2, f0, f1, f2⟩ := CC21.out.cells
  clear b21
  go_wp2_with fail
  clear x0 x1 x2 f0 f1 f2
  refine (right_lit c4 _ _ R4.out _ (by have := L4.out; unfold maxLen; omega) CC21.out.sh.src).mono ?_
  rintro e w22 ⟨rfl, b22⟩
  have CC22 := Lib.hid (CC21.out.below b22 rfl)
  have BL22 := Lib.hid (BL21.out.trans (b22.mono BL21.out.size))
  clear b22
  go_wp2_with fail
  refine (RZ.out _).mono ?_
  rintro e w23 ⟨rfl, b23⟩
  have CC23 := Lib.hid (CC22.out.below b23 rfl)
  have BL23 := Lib.hid (BL22.out.trans (b23.mono BL22.out.size))
  obtain ⟨x0, x1, x2, f0, f1, f2⟩ := CC23.out.cells
  rw [CK.out] at x1
  clear b23
  go_wp2
  go_ret
  exact ⟨rfl, BL23.out⟩
end Cache
end Go.Proofs.Ytpkhafijmbgcnaa
