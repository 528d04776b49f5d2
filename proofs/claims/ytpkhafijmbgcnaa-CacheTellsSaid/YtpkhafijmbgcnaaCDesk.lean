/- The desk: a map of what is held, by its blocks (chapter 21). -/
import Derived.Test.YtpkhafijmbgcnaaCHeld
import Derived.Maps.Range
namespace Go.Proofs.Ytpkhafijmbgcnaa
namespace Cache
open Go.RowKit
set_option linter.unusedVariables false

abbrev TD : TypeId := 61
/-- What is held, as a datum. -/
def hdat (h : Hd) : DW := .agg [.lit (.int .i64 h.blk), .lit (.int .i64 h.st), .lit (.string h.txt.data.toList)]
def hval (h : Hd) : Value := .agg #[.int .i64 h.blk, .int .i64 h.st, .string h.txt]
theorem bytes_inj {s t : ByteArray} (h : s.data.toList = t.data.toList) : s = t := by
  have : s.data = t.data := Array.toList_inj.1 h
  cases s; cases t; simp at this; rw [this]
theorem hdat_inj {x y : Hd} (h : hdat x = hdat y) : x = y := by
  cases x; cases y
  unfold hdat at h
  simp at h
  obtain ⟨h1, h2, h3⟩ := h
  have h4 := bytes_inj (congrArg Array.toList h3)
  subst h1 h2 h4
  rfl
/-- How an element of the desk reads. -/
def heldR : Value → Option (DW × List MemPlace)
  | .agg cs => match cs.toList with
    | [.int .i64 b, .int .i64 s, .string t] => some (.agg [.lit (.int .i64 b), .lit (.int .i64 s), .lit (.string t.data.toList)], [])
    | _ => none
  | _ => none
theorem heldR_mk (h : Hd) : heldR (hval h) = some (hdat h, []) := rfl
theorem heldR_inv {v : Value} {z : DW × List MemPlace} (h : heldR v = some z) : ∃ x : Hd, v = hval x ∧ z = (hdat x, []) := by
  unfold heldR at h
  split at h
  · rename_i cs
    split at h
    · rename_i b s t e
      refine ⟨⟨b, s, t⟩, ?_, ?_⟩
      · unfold hval
        rw [show cs = #[.int .i64 b, .int .i64 s, .string t] from by apply Array.toList_inj.1; rw [e]]
      · injection h with h; rw [← h]; rfl
    · cases h
  · cases h
theorem hval_inj {x y : Hd} (h : hval x = hval y) : x = y := by
  have h1 := heldR_mk x
  rw [h, heldR_mk y] at h1
  injection h1 with h1
  injection h1 with h1 _
  exact (hdat_inj h1).symm
def zeroH : Hd := ⟨0, 0, ⟨#[]⟩⟩

/-! ### what a desk holds -/
theorem find_nil (b : Int) : find b [] = none := rfl
theorem find_put (l : List Hd) (hr : Rise l) (h : Hd) (b : Int) : find b (put h l) = if b = h.blk then some h else find b l := by
  have hp := hr.put h
  have hm := mem_put h l hr
  split
  · rename_i e
    exact find_of_mem hp ((hm h).2 (.inl rfl)) e.symm
  · rename_i e
    cases hf : find b l with
    | some x =>
      obtain ⟨hx, hb⟩ := find_some hf
      exact find_of_mem hp ((hm x).2 (.inr ⟨hx, by rw [hb]; exact e⟩)) hb
    | none =>
      cases hg : find b (put h l) with
      | none => rfl
      | some x =>
        obtain ⟨hx, hb⟩ := find_some hg
        rcases (hm x).1 hx with rfl | ⟨hx, _⟩
        · exact absurd hb.symm e
        · exact absurd hb (find_none hf x hx)
theorem find_drop (l : List Hd) (hr : Rise l) (c b : Int) : find b (drop c l) = if b = c then none else find b l := by
  split
  · rename_i e
    cases hg : find b (drop c l) with
    | none => rfl
    | some x =>
      obtain ⟨hx, hb⟩ := find_some hg
      exact absurd (hb.trans e) (mem_drop.1 hx).2
  · rename_i e
    cases hf : find b l with
    | some x =>
      obtain ⟨hx, hb⟩ := find_some hf
      exact find_of_mem (hr.drop c) (mem_drop.2 ⟨hx, by rw [hb]; exact e⟩) hb
    | none =>
      cases hg : find b (drop c l) with
      | none => rfl
      | some x =>
        obtain ⟨hx, hb⟩ := find_some hg
        exact absurd hb (find_none hf x (mem_drop.1 hx).1)
theorem drop_length (l : List Hd) (hr : Rise l) (b : Int) : (drop b l).length + (if (find b l).isSome = true then 1 else 0) = l.length := by
  induction l with
  | nil => rfl
  | cons x r ih =>
    have ih := ih hr.tail
    by_cases h : x.blk = b
    · have hn : find b r = none := by
        cases hf : find b r with
        | none => rfl
        | some y =>
          obtain ⟨hy, hb⟩ := find_some hf
          have := hr.head y hy
          omega
      have e1 : drop b (x :: r) = drop b r := by unfold drop; simp [h]
      have e2 : find b (x :: r) = some x := by unfold find; simp [h]
      rw [hn] at ih
      rw [e1, e2]
      simp at ih ⊢
      omega
    · have e1 : drop b (x :: r) = x :: drop b r := by unfold drop; simp [h]
      have e2 : find b (x :: r) = find b r := by unfold find; simp [h]
      rw [e1, e2, List.length_cons, List.length_cons]
      omega
structure Desk (D : DW) (l : List Hd) : Prop where
  rise : Rise l
  at_ : ∀ (b : Int) (z : DW), D.atKey (Lk b) z = (match find b l with | some h => hdat h | none => z)
  size : Go.Maps.size D = l.length
theorem Desk.start : Desk (.map []) [] := ⟨by simp [Rise], fun b z => rfl, rfl⟩
theorem Desk.at_some {D : DW} {l : List Hd} (h : Desk D l) {b : Int} {x : Hd} (hf : find b l = some x) (z : DW) : D.atKey (Lk b) z = hdat x := by rw [h.at_, hf]
theorem Desk.at_none {D : DW} {l : List Hd} (h : Desk D l) {b : Int} (hf : find b l = none) (z : DW) : D.atKey (Lk b) z = z := by rw [h.at_, hf]
theorem Desk.has {D : DW} {l : List Hd} (h : Desk D l) (b : Int) : Go.Maps.has D (Lk b) = (find b l).isSome := by
  cases hf : find b l with
  | some x => exact Go.Maps.has_true_of_atKey (y := hdat x) (fun z => h.at_some hf z)
  | none => exact Go.Maps.has_false_of_atKey (fun z => h.at_none hf z)
theorem put_len (l : List Hd) (hr : Rise l) (h : Hd) : (put h l).length = if (find h.blk l).isSome = true then l.length else l.length + 1 := by
  rcases put_length h l hr with ⟨e, x, hx, hb⟩ | ⟨e, hn⟩
  · rw [e, find_of_mem hr hx hb]; rfl
  · have : find h.blk l = none := by
      cases hf : find h.blk l with
      | none => rfl
      | some y =>
        obtain ⟨hy, hb⟩ := find_some hf
        exact absurd hb (hn y hy)
    rw [e, this]; rfl
theorem Desk.put {D : DW} {l : List Hd} (h : Desk D l) (ht : Go.Maps.Tidy D) (x : Hd) : Desk (D.put (Lk x.blk) (hdat x)) (put x l) := by
  refine ⟨h.rise.put x, fun b z => ?_, ?_⟩
  · rw [find_put l h.rise]
    by_cases e : b = x.blk
    · subst e
      rw [if_pos rfl, Go.Maps.atKey_put_same ht.isMap (keyLit _)]
    · rw [if_neg e, Go.Maps.atKey_put_other (fun e' => e (by injection e' with _ e')), h.at_]
  · rw [Go.Maps.size_put ht, h.has, h.size, put_len l h.rise]
theorem Desk.drop {D : DW} {l : List Hd} (h : Desk D l) (ht : Go.Maps.Tidy D) (c : Int) : Desk (D.del (Lk c)) (drop c l) := by
  refine ⟨h.rise.drop c, fun b z => ?_, ?_⟩
  · rw [find_drop l h.rise]
    by_cases e : b = c
    · subst e
      rw [if_pos rfl, Go.Maps.atKey_del_same]
    · rw [if_neg e, Go.Maps.atKey_del_other (fun e' => e (by injection e' with _ e')), h.at_]
  · have h1 := Go.Maps.size_del (k := Lk c) ht
    have h2 := drop_length l h.rise c
    rw [h.has, h.size] at h1
    omega

/-! ### a desk in memory -/
abbrev dk : Go.Maps.Keyed Try.prog 3 := keyed _ Try.underlying3
def DeskW (w : World) (b n : Nat) (l : List Hd) : Prop := ∃ D : DW, w.ownsMap Try.prog 3 heldR b n D ∧ Desk D l
theorem DeskW.start (w : World) : DeskW (w.alloc (.map #[] 0)) w.heap.size 0 [] := ⟨_, World.ownsMap_made w Try.prog 3 heldR, Desk.start⟩
theorem DeskW.alloc {w : World} {b n : Nat} {l : List Hd} (h : DeskW w b n l) (o : Obj) : DeskW (w.alloc o) b n l := by
  obtain ⟨D, h1, h2⟩ := h
  exact ⟨D, h1.alloc o, h2⟩
theorem DeskW.below {w w' : World} {b n B : Nat} {l : List Hd} (h : DeskW w b n l) (hb : Below B w w') (hB : w.heap.size ≤ B) : DeskW w' b n l := by
  obtain ⟨D, h1, h2⟩ := h
  have hlt := h1.lt
  obtain ⟨es, clock, hh, F, hs, hD⟩ := h1
  exact ⟨D, ⟨es, clock, (hb.block b (by omega)).trans hh, F, hs, hD⟩, h2⟩
theorem DeskW.lt {w : World} {b n : Nat} {l : List Hd} (h : DeskW w b n l) : b < w.heap.size := by
  obtain ⟨D, h1, _⟩ := h
  exact h1.lt
theorem zeroHeld (w : World) : (zeroValue TH).run Try.prog w = .ok (hval zeroH) w := by kernel_rfl
theorem DeskW.look {w : World} {b n : Nat} {l : List Hd} (h : DeskW w b n l) (x : Int) (h1 : -9223372036854775808 ≤ x) (h2 : x ≤ 9223372036854775807) :
    (Instr.lookup TD (.map (some b)) (.int .i64 x) true).run Try.prog w = .ok (.tuple #[hval ((find x l).getD zeroH), .bool (find x l).isSome]) w := by
  obtain ⟨D, ho, hd⟩ := h
  obtain ⟨v, ps, hr, hv⟩ := ho.look_ok dk Try.underlying61 (zeroHeld w) (heldR_mk zeroH) (key_int h1 h2)
  rw [hr, hd.has]
  obtain ⟨y, rfl, hy⟩ := heldR_inv hv
  injection hy with hy _
  cases hf : find x l with
  | some z =>
    rw [hd.at_some hf] at hy
    rw [hdat_inj hy]; rfl
  | none =>
    rw [hd.at_none hf] at hy
    rw [← hdat_inj hy]; rfl
theorem DeskW.len {w : World} {b n : Nat} {l : List Hd} (h : DeskW w b n l) (ty : TypeId) : (Builtin.len_ #[TD] ty #[.map (some b)]).run Try.prog w = .ok (.int .i64 l.length) w := by
  obtain ⟨D, ho, hd⟩ := h
  rw [ho.len Try.underlying61 ty, hd.size]
theorem DeskW.store {w : World} {b n : Nat} {l : List Hd} (h : DeskW w b n l) (x : Hd) (h1 : -9223372036854775808 ≤ x.blk) (h2 : x.blk ≤ 9223372036854775807) (hn : n < 100000) :
    ∃ w', (Instr.mapUpdate TD (.map (some b)) (.int .i64 x.blk) (hval x)).run Try.prog w = .ok () w' ∧ DeskW w' b (n + 1) (put x l) ∧ w.mapTurned w' b := by
  obtain ⟨D, ho, hd⟩ := h
  obtain ⟨w', hr, ho', ht⟩ := ho.store dk Try.underlying61 (by unfold maxLen; omega) (key_int h1 h2) (heldR_mk x)
  exact ⟨w', hr, ⟨_, ho', hd.put (ho.tidy dk) x⟩, ht⟩
theorem DeskW.del {w : World} {b n : Nat} {l : List Hd} (h : DeskW w b n l) (x : Int) (h1 : -9223372036854775808 ≤ x) (h2 : x ≤ 9223372036854775807) (ty : TypeId) :
    ∃ w', (Builtin.delete_ #[TD, 3] ty #[.map (some b), .int .i64 x]).run Try.prog w = .ok (.tuple #[]) w' ∧ DeskW w' b n (drop x l) ∧ w.mapTurned w' b := by
  obtain ⟨D, ho, hd⟩ := h
  obtain ⟨w', hr, ho', ht⟩ := ho.drop dk Try.underlying61 (key_int h1 h2) ty
  exact ⟨w', hr, ⟨_, ho', hd.drop (ho.tidy dk) x⟩, ht⟩
theorem mapTurned_below {w w' : World} {b B : Nat} (h : w.mapTurned w' b) (hB : B ≤ b) (hw : B ≤ w.heap.size) : Below B w w' :=
  (Below.refl _ _).grown h.grown hw (fun k hk => by injection hk with hk; omega)
/-- The operations, by what they come to. -/
theorem store_eq {P : Program} {w w' : World} {ops : Array Oper} {rest : List Oper} {o : Oper} {a : Act} {Q : Exit → Act → World → Prop} (hg : o.guard = none) (m x v : Operand) (t : TypeId) (ho : o.op = .mapUpdate t m x v)
    {vm vx vv : Value} (hm : a.eval m = vm) (hx : a.eval x = vx) (hv : a.eval v = vv) (hr : (Instr.mapUpdate t vm vx vv).run P w = .ok () w') (h : wpList P ops Q rest (a.put o.dst undef) w') : wpList P ops Q (o :: rest) a w := by
  refine wpList_plain hg fun K hK => ?_
  unfold Oper.wp
  simp [execOp, ho, hm, hx, hv, hr, Result.andThen]
  exact hK _ _ h
theorem del_eq {P : Program} {w w' : World} {ops : Array Oper} {rest : List Oper} {o : Oper} {a : Act} {Q : Exit → Act → World → Prop} (hg : o.guard = none) (m x : Operand) (t k : TypeId)
    (ho : o.op = .call { callee := .builtin .delete, args := #[m, x], argTypes := #[t, k] }) {vm vx : Value} (hm : a.eval m = vm) (hx : a.eval x = vx) (hr : (Builtin.delete_ #[t, k] o.type #[vm, vx]).run P w = .ok (.tuple #[]) w')
    (h : wpList P ops Q rest (a.put o.dst (.tuple #[])) w') : wpList P ops Q (o :: rest) a w := by
  refine wpList_plain hg fun K hK => ?_
  unfold Oper.wp
  simp [execOp, ho, resolve, invoke, builtin, hm, hx, hr, Result.andThen]
  exact hK _ _ h
end Cache
end Go.Proofs.Ytpkhafijmbgcnaa
