/- A shelf that came in as an argument, read as a datum (chapter 21's law texts). -/
import Derived.Test.YtpkhafijmbgcnaaDLaw0
import Derived.Deep.Strs
import Derived.Test.YtpkhafijmbgcnaaKit
namespace Go.Proofs.Ytpkhafijmbgcnaa
namespace Cache
open Go.ChangeShapes Go.WideShapes Go.ChangeAt Go.RowKit Go.Shelf
set_option linter.unusedVariables false

/-- What is told of it. -/
structure ShArg (w : World) (c : Sh) (a : Option Addr) (cap : Nat) : Prop where
  sh : ShW w c a cap
  room : c.held.length ≤ cap
  cap : cap ≤ maxLen
theorem list3 {α : Type} (l : List α) (h : l.length = 3) : ∃ c0 c1 c2, l = [c0, c1, c2] := by
  match l, h with
  | [c0, c1, c2], _ => exact ⟨c0, c1, c2, rfl⟩
theorem cells_held : Try.prog.cellsOf 50 = 3 := by kernel_rfl
theorem cells_shelf : Try.prog.cellsOf 25 = 3 := by kernel_rfl
theorem cells_int : Try.prog.cellsOf 3 = 1 := by kernel_rfl
theorem cells_str : Try.prog.cellsOf 9 = 1 := by kernel_rfl
theorem cells_hs : Try.prog.cellsOf 23 = 1 := by kernel_rfl

section
variable {H : Type} {enc : TypeId × Value → H} {w : World} {base : Nat} {spare : Nat → Bool} {held : Bool}
theorem open_held {x : Addr} {i n : Nat} {cs : List Value} {y : DataW H × List MemPlace} (h1 : w.cells? base (x.add (i * 3)) 3 = some cs) (h2 : DataW.trod enc Try.prog w base spare held n 50 cs = some y) :
    ∃ h : Hd, w.cell? (x.add (i * 3)) = some (.int .i64 h.blk) ∧ w.cell? ((x.add (i * 3)).add 1) = some (.int .i64 h.st) ∧ w.cell? ((x.add (i * 3)).add 2) = some (.string h.txt) ∧ -9223372036854775808 ≤ h.blk ∧ h.blk ≤ 9223372036854775807 := by
  obtain ⟨y0, y1, y2, k, _, hl, g0, g1, g2⟩ := Deep.trod_struct3 Try.underlying50 h2
  rw [cells_held] at hl
  simp only [cells_int, cells_str] at g0 g1 g2
  obtain ⟨c0, c1, c2, rfl⟩ := list3 cs hl
  simp at g0 g1 g2
  obtain ⟨n0, e0, _, f0⟩ := DataW.trod_int Try.underlying3 g0
  obtain ⟨n1, e1, _, f1⟩ := DataW.trod_int Try.underlying3 g1
  obtain ⟨s2, e2, _, f2⟩ := DataW.trod_string Try.underlying9 g2
  simp at e0 e1 e2
  subst e0 e1 e2
  obtain ⟨_, _, hc⟩ := World.cells?_some h1
  have q0 := hc 0 (by simp)
  have q1 := hc 1 (by simp)
  have q2 := hc 2 (by simp)
  obtain ⟨b1, b2⟩ := bounds_i64 f0
  refine ⟨⟨n0, n1, s2⟩, ?_, ?_, ?_, b1, b2⟩
  · simpa [Addr.add] using q0
  · simpa using q1
  · simpa using q2
theorem open_shelf {v : Value} {d : DataW H} {p : List MemPlace} (h : DataW.Trod enc Try.prog w base spare held 25 v d p) :
    ∃ c a cap, v = .agg #[.int .i64 c.room, .int .i64 c.clock, .slice a c.held.length cap] ∧ ShArg w c a cap := by
  obtain ⟨fuel, hf⟩ := h
  obtain ⟨y0, y1, y2, k, _, hl, g0, g1, g2⟩ := Deep.trod_struct3 Try.underlying25 hf
  rw [cells_shelf] at hl
  simp only [cells_int, cells_hs] at g0 g1 g2
  obtain ⟨c0, c1, c2, hcs⟩ := list3 _ hl
  rw [hcs] at g0 g1 g2
  simp at g0 g1 g2
  obtain ⟨n0, e0, _, f0⟩ := DataW.trod_int Try.underlying3 g0
  obtain ⟨n1, e1, _, f1⟩ := DataW.trod_int Try.underlying3 g1
  simp at e0 e1
  subst e0 e1
  have hv : ∀ c2, v.cells.toList = [.int .i64 n0, .int .i64 n1, c2] → v = .agg #[.int .i64 n0, .int .i64 n1, c2] := by
    intro c2 hc
    cases v with
    | agg cs =>
      obtain ⟨l⟩ := cs
      simp [Value.cells] at hc
      rw [hc]
    | _ => simp [Value.cells] at hc
  rcases Deep.open_slice Try.underlying23 g2 with ⟨hc2, _⟩ | ⟨x, len, cap, m, fu, D, Pl, hc2, _, hlc, hm, hmm, _, hx⟩
  · simp at hc2
    subst hc2
    exact ⟨⟨n0, n1, []⟩, none, 0, hv _ hcs, ⟨HSrc.nil _ _, fun _ => ⟨rfl, rfl⟩, fun h hh => by cases hh⟩, Nat.le_refl _, Nat.zero_le _⟩
  · simp at hc2
    subst hc2
    have hml : len ≤ m := by rw [hmm]; split <;> omega
    rw [cells_held] at hx
    have hone : ∀ i, i < len → ∃ y : Hd, ∃ b off, some x = some (⟨b, off, none⟩ : Addr) ∧ w.cell? ⟨b, off + i * 3, none⟩ = some (.int .i64 y.blk) ∧ w.cell? ⟨b, off + i * 3 + 1, none⟩ = some (.int .i64 y.st) ∧ w.cell? ⟨b, off + i * 3 + 2, none⟩ = some (.string y.txt) ∧ -9223372036854775808 ≤ y.blk ∧ y.blk ≤ 9223372036854775807 := by
      intro i hi
      obtain ⟨cs0, h01, h02⟩ := hx 0 (by omega)
      obtain ⟨_, hz, _, _, _, _⟩ := open_held h01 h02
      have hsp : x.spot = none := Kit.add_spot hz (.inl (by omega))
      obtain ⟨cs1, h1, h2⟩ := hx i (by omega)
      obtain ⟨y, q0, q1, q2, f0, f1⟩ := open_held h1 h2
      obtain ⟨b, off, spot⟩ := x
      simp only at hsp
      subst hsp
      have hadd : ∀ j, (⟨b, off, none⟩ : Addr).add j = ⟨b, off + j, none⟩ := by
        intro j; unfold Addr.add; split <;> simp_all
      rw [Deep.add_add, hadd] at q1 q2
      rw [hadd] at q0
      exact ⟨y, b, off, rfl, q0, q1, q2, f0, f1⟩
    obtain ⟨f, hf'⟩ := Deep.choose_lt hone
    have hln : ((List.range len).map f).length = len := by simp
    refine ⟨⟨n0, n1, (List.range len).map f⟩, some x, cap, ?_, ⟨?_, fun e => (by cases e), ?_⟩, by rw [hln]; exact hlc, hm⟩
    · rw [hv _ hcs, hln]
    · intro j y hj
      have hjl : j < len := by
        rcases Nat.lt_or_ge j len with h1 | h1
        · exact h1
        · rw [List.getElem?_eq_none (by rw [hln]; exact h1)] at hj; cases hj
      rw [List.getElem?_eq_getElem (by rw [hln]; exact hjl)] at hj
      injection hj with hj
      simp at hj
      subst hj
      obtain ⟨b, off, h0, h1, h2, h3, _, _⟩ := hf' j hjl
      exact ⟨b, off, h0, h1, h2, h3⟩
    · intro y hy
      obtain ⟨j, hj, rfl⟩ := List.mem_map.1 hy
      obtain ⟨b, off, _, _, _, _, h4, h5⟩ := hf' j (List.mem_range.1 hj)
      exact ⟨h4, h5⟩
end
end Cache
end Go.Proofs.Ytpkhafijmbgcnaa
