/- Contracts of strings.Builder's methods as far as chapter 4 calls them. -/
import Derived.Test.YthdpcjahficlnaaShelf
import Derived.Test.YthdpcjahficlnaaOwn
import Derived.Test.YthdpcjahficlnaaRPlain
import Derived.RangeFuncNested
import Derived.RangeFuncBound
import Derived.RangeFuncCalls
import Derived.RangeFuncLeaves
import Derived.WalkKit
import Derived.WalkSpells
import Derived.Lib.Hide
import Derived.Lib.OthersKept
import Derived.Lib.Builder
import Derived.Lib.AppendStr
import Derived.Laws.Externs
namespace Go.Proofs.Ythdpcjahficlnaa
namespace Rle
open Go.RowKit
set_option linter.unusedVariables false

abbrev TB : TypeId := 41
abbrev TY : TypeId := 5
theorem sizeB : (Try.prog.info? TB).map (·.size) = some 2 := by kernel_rfl
theorem liesB : liesAt Try.prog Try.prog.depth TB (2 / Try.prog.cellsOf TB) 0 TB 1 = true := by kernel_rfl
theorem infoY : (Try.prog.info? TY).map (fun i => (i.zero, i.size, i.bytes)) = some (some (.int .u8 0), 1, 1) := by kernel_rfl

set_option maxHeartbeats 1000000 in
set_option maxRecDepth 100000 in
theorem check_used (b : Nat) (w : World) (h0 : w.cell? ⟨b, 0, none⟩ = some (.pointer (some ⟨b, 0, none⟩))) :
    Calls Try.prog 22 #[.pointer (some ⟨b, 0, none⟩)] w fun e w' => e = .returned (.tuple #[]) ∧ w' = w := by
  obtain ⟨j, hj, _⟩ := Option.map_eq_some_iff.1 sizeB
  go_enter Try.func22, Try.ntmps22
  go_wp2
  rw [Lib.run_neq_ptr_same w _ Try.underlying39 hj]
  go_wp2
  go_end0
  exact ⟨rfl, rfl⟩
set_option maxHeartbeats 1000000 in
set_option maxRecDepth 100000 in
theorem check_fresh (b : Nat) (w : World) (h0 : w.cell? ⟨b, 0, none⟩ = some (.pointer none)) (hsh : w.shape? b = some (TB, 2)) (hfz : w.frozen? ⟨b, 0, none⟩ = false) :
    Calls Try.prog 22 #[.pointer (some ⟨b, 0, none⟩)] w fun e w' => e = .returned (.tuple #[]) ∧ w' = w.setCell ⟨b, 0, none⟩ (.pointer (some ⟨b, 0, none⟩)) := by
  obtain ⟨j, hj, hjs⟩ := Option.map_eq_some_iff.1 sizeB
  go_enter Try.func22, Try.ntmps22
  go_wp2
  rw [Lib.run_to_unsafe w ⟨b, 0, none⟩ Try.underlying39 Try.underlying56 hj (by rw [hjs]; decide) hsh (Nat.zero_lt_succ 1)]
  simp only [Result.andThen]
  rw [Oper.upon_value]
  go_wp2
  rw [run_callFunc_extern Try.func23 (by kernel_rfl) (by kernel_rfl) (by kernel_rfl) (e := Extern.AbiNoEscape.same) (by kernel_rfl)]
  rw [Lib.run_noEscape]
  simp only [Result.andThen]
  rw [Oper.upon_value]
  go_wp2
  rw [Lib.run_from_unsafe w ⟨b, 0, none⟩ Try.underlying56 Try.underlying39 hj hsh liesB]
  simp only [Result.andThen]
  rw [Oper.upon_value]
  go_wp2
  go_end0
  exact ⟨rfl, rfl⟩
theorem check_any (B b : Nat) (bs : List Value) (w : World) (h : Lib.IsBuilder TB TY B b bs w) :
    Calls Try.prog 22 #[.pointer (some ⟨b, 0, none⟩)] w fun e w' => e = .returned (.tuple #[]) ∧ Lib.BuilderAt TB TY B b (.pointer (some ⟨b, 0, none⟩)) bs w' ∧ Below B w w' ∧ Lib.OthersKept TY (some b) w w' ∧ w.heap.size ≤ w'.heap.size := by
  rcases h with h | h
  · refine (check_fresh b w h.cell0 h.shape h.frozen0).mono ?_
    rintro e w' ⟨rfl, rfl⟩
    exact ⟨rfl, h.used _, (Below.refl B w).setCell (p := ⟨b, 0, none⟩) h.1 _, (Lib.OthersKept.refl _ _ w).setCell ⟨b, 0, none⟩ rfl _, by simp [World.setCell]⟩
  · refine (check_used b w h.cell0).mono ?_
    rintro e w' ⟨rfl, rfl⟩
    exact ⟨rfl, h, Below.refl B _, Lib.OthersKept.refl _ _ _, Nat.le_refl _⟩
theorem owns_kind {w : World} {B : Nat} {e : TypeId} {v : Value} {n : Nat} {xs : List Value} (h : w.ownsRow B e 1 v n xs) : ∀ g, v.ownBlock = some g → ∃ c fz, w.heap[g]? = some (.cells c e fz) := by
  intro g hg
  rcases h.2 with ⟨rfl, _⟩ | ⟨g', cap, cur, rfl, _, hgg, _⟩
  · simp [Value.ownBlock] at hg
  · simp [Value.ownBlock] at hg
    subst hg
    exact ⟨cur, _, hgg⟩
theorem heap_lt {w : World} {b : Nat} {o : Obj} (h : w.heap[b]? = some o) : b < w.heap.size := (Array.getElem?_eq_some_iff.1 h).1
/-- A builder that holds these bytes. -/
def Bld (w : World) (B b : Nat) (l : T) : Prop := Lib.IsBuilder TB TY B b (Lib.byteCells l) w
theorem byteCells_append (l m : T) : Lib.byteCells (l ++ m) = Lib.byteCells l ++ Lib.byteCells m := by unfold Lib.byteCells; simp
theorem byteCells_length (l : T) : (Lib.byteCells l).length = l.length := by unfold Lib.byteCells; simp
theorem byteCells_one (c : UInt8) : Lib.byteCells [c] = [.int .u8 (c.toNat : Int)] := by unfold Lib.byteCells; rfl
theorem byteCells_str (s : ByteArray) : Lib.strCells s = Lib.byteCells s.data.toList := by unfold Lib.strCells Lib.byteCells; simp

set_option maxHeartbeats 2000000 in
set_option maxRecDepth 100000 in
theorem writeByte_any (B b : Nat) (l : T) (c : UInt8) (w : World) (h : Bld w B b l) (hlen : l.length + 1 ≤ 1000000000) (hBw : B ≤ w.heap.size) :
    Calls Try.prog 16 #[.pointer (some ⟨b, 0, none⟩), .int .u8 (c.toNat : Int)] w fun e w' => e = .returned .nilIface ∧ Bld w' B b (l ++ [c]) ∧ Below B w w' ∧ Lib.OthersKept TY (some b) w w' ∧ w.heap.size ≤ w'.heap.size := by
  obtain ⟨i0, hi, hy0, hy1, hy2⟩ := info_parts infoY
  have hbl := byteCells_length l
  unfold Bld at h
  obtain ⟨bs, hbs⟩ : ∃ bs, Lib.byteCells l = bs := ⟨_, rfl⟩
  rw [hbs] at h hbl
  have hlen2 : bs.length + 1 ≤ 1000000000 := by omega
  have HBL := Lib.hid hbl
  have HBS := Lib.hid hbs
  clear hbl hbs
  go_enter Try.func16, Try.ntmps16
  go_wp2_with (go_at_call 22; refine (check_any B b bs _ h).mono ?_)
  rintro e w1 ⟨rfl, h1, hb1, hk1, hz1⟩
  obtain ⟨hB, v, hbk, hown, hne⟩ := h1
  have c0 : w1.cell? ⟨b, 0, none⟩ = some (.pointer (some ⟨b, 0, none⟩)) := by rw [Lib.cell_of_heap hbk]; rfl
  have c1 : w1.cell? ⟨b, 1, none⟩ = some v := by rw [Lib.cell_of_heap hbk]; rfl
  go_wp2_with (at_builtin; refine wpList_append_own _ rfl _ _ 36 rfl B TY i0 (.int .u8 0) 1 1 Try.underlying36 hi hy0 hy1 hy2 rfl (by decide) _ _ _ rfl (hown.alloc _) ⟨w1.heap.size, 0, none⟩ 1 1 [.int .u8 (c.toNat : Int)] rfl rfl ?c1 ?c2 ?c3 ?c4 ?c5 ?_)
  case c1 =>
    intro j u hj
    match j, hj with
    | 0, hj => simp at hj; subst hj; simp [Addr.add]
  case c2 => intro u hu; simp at hu; subst hu; rfl
  case c3 => unfold maxLen; omega
  case c4 => omega
  case c5 => have := hb1.size; simp; omega
  intro v' w2 hown' hgrow _
  have hlt : b < w1.heap.size := heap_lt hbk
  have hb2 : w2.heap[b]? = some (.cells #[.pointer (some ⟨b, 0, none⟩), v] TB (0, 0)) := by
    rw [hgrow.block b (by simp; omega) (fun e => hne e.symm), Lib.alloc_old w1 _ b hlt]
    exact hbk
  have d0 : w2.cell? ⟨b, 0, none⟩ = some (.pointer (some ⟨b, 0, none⟩)) := by rw [Lib.cell_of_heap hb2]; rfl
  have d1 : w2.cell? ⟨b, 1, none⟩ = some v := by rw [Lib.cell_of_heap hb2]; rfl
  have f1 : w2.frozen? ⟨b, 1, none⟩ = false := Lib.frozen_of_heap hb2 1
  obtain ⟨g, cap, rfl⟩ : ∃ g cap, v' = .slice (some ⟨g, 0, none⟩) (bs.length + 1) cap := by
    rcases hown'.2 with ⟨_, h0⟩ | ⟨g, cap, cur, hv, _⟩
    · omega
    · exact ⟨g, cap, hv⟩
  go_wp2
  go_ret
  refine ⟨rfl, .inr ?_, ?_, ((hk1.alloc _).grown hgrow (owns_kind (hown.alloc _))).setCell ⟨b, 1, none⟩ rfl _, by have := hgrow.size; simp at this; simp [World.setCell]; omega⟩
  · rw [byteCells_append, byteCells_one, HBS.out]
    exact Lib.BuilderAt.put (T := TB) (e := TY) hB hb2 (bs' := bs ++ [.int .u8 (c.toNat : Int)]) (by simpa using hown') (by decide)
  · exact ((hb1.alloc (by have := hb1.size; omega) _).grown hgrow (by have := hb1.size; simp; omega) (fun k hk => (hown.lt k hk).1)).setCell (p := ⟨b, 1, none⟩) hB _

set_option maxHeartbeats 2000000 in
set_option maxRecDepth 100000 in
theorem writeString_any (B b : Nat) (l : T) (s : ByteArray) (w : World) (h : Bld w B b l) (hlen : l.length + s.size ≤ 1000000000) (hBw : B ≤ w.heap.size) :
    Calls Try.prog 15 #[.pointer (some ⟨b, 0, none⟩), .string s] w fun e w' => e = .returned (.tuple #[.int .i64 s.size, .nilIface]) ∧ Bld w' B b (l ++ s.data.toList) ∧ Below B w w' ∧ Lib.OthersKept TY (some b) w w' ∧ w.heap.size ≤ w'.heap.size := by
  obtain ⟨i0, hi, hy0, hy1, hy2⟩ := info_parts infoY
  have hbl := byteCells_length l
  unfold Bld at h
  obtain ⟨bs, hbs⟩ : ∃ bs, Lib.byteCells l = bs := ⟨_, rfl⟩
  rw [hbs] at h hbl
  have hlen2 : bs.length + s.size ≤ 1000000000 := by omega
  have HBL := Lib.hid hbl
  have HBS := Lib.hid hbs
  clear hbl hbs
  go_enter Try.func15, Try.ntmps15
  go_wp2_with (go_at_call 22; refine (check_any B b bs _ h).mono ?_)
  rintro e w1 ⟨rfl, h1, hb1, hk1, hz1⟩
  obtain ⟨hB, v, hbk, hown, hne⟩ := h1
  have c0 : w1.cell? ⟨b, 0, none⟩ = some (.pointer (some ⟨b, 0, none⟩)) := by rw [Lib.cell_of_heap hbk]; rfl
  have c1 : w1.cell? ⟨b, 1, none⟩ = some v := by rw [Lib.cell_of_heap hbk]; rfl
  go_wp2_with (at_builtin; refine Lib.wpList_append_own_string _ rfl _ _ 36 9 rfl B TY i0 Try.underlying36 Try.underlying9 hi hy0 hy1 hy2 _ _ _ rfl hown s rfl ?c3 ?c4 ?c5 ?_)
  case c3 => unfold maxLen; omega
  case c4 => omega
  case c5 => have := hb1.size; omega
  intro v' w2 hown' hgrow _
  have hlt : b < w1.heap.size := heap_lt hbk
  have hb2 : w2.heap[b]? = some (.cells #[.pointer (some ⟨b, 0, none⟩), v] TB (0, 0)) := by
    rw [hgrow.block b hlt (fun e => hne e.symm)]
    exact hbk
  have d0 : w2.cell? ⟨b, 0, none⟩ = some (.pointer (some ⟨b, 0, none⟩)) := by rw [Lib.cell_of_heap hb2]; rfl
  have d1 : w2.cell? ⟨b, 1, none⟩ = some v := by rw [Lib.cell_of_heap hb2]; rfl
  have f1 : w2.frozen? ⟨b, 1, none⟩ = false := Lib.frozen_of_heap hb2 1
  obtain ⟨ao, n', cap, rfl⟩ : ∃ ao n' cap, v' = .slice ao n' cap := by
    rcases hown'.2 with ⟨hv, _⟩ | ⟨g, cap, cur, hv, _⟩
    · exact ⟨_, _, _, hv⟩
    · exact ⟨_, _, _, hv⟩
  go_wp2
  go_ret2
  refine ⟨rfl, .inr ?_, ?_, (hk1.grown hgrow (owns_kind hown)).setCell ⟨b, 1, none⟩ rfl _, by have := hgrow.size; simp [World.setCell]; omega⟩
  · rw [byteCells_append, ← byteCells_str, HBS.out]
    exact Lib.BuilderAt.put (T := TB) (e := TY) hB hb2 (bs' := bs ++ Lib.strCells s) (by simpa [Lib.strCells_length] using hown') (by decide)
  · exact (hb1.grown hgrow (by have := hb1.size; omega) (fun k hk => (hown.lt k hk).1)).setCell (p := ⟨b, 1, none⟩) hB _
theorem len_any (B b : Nat) (l : T) (w : World) (h : Bld w B b l) :
    Calls Try.prog 19 #[.pointer (some ⟨b, 0, none⟩)] w fun e w' => e = .returned (.int .i64 (l.length : Int)) ∧ w' = w := by
  have := Try.Builder_Len B b _ w h
  rw [byteCells_length] at this
  exact this
theorem string_any (B b : Nat) (l : T) (w : World) (h : Bld w B b l) (hBw : B ≤ w.heap.size) :
    Calls Try.prog 17 #[.pointer (some ⟨b, 0, none⟩)] w fun e w' => e = .returned (.string ⟨l.toArray⟩) ∧ Below B w w' ∧ Lib.OthersKept TY (some b) w w' := by
  refine (Try.Builder_String_any_k B b l w (Lib.IsBuilderF.of h) hBw).mono ?_
  rintro e w' ⟨h1, _, h2, h3⟩
  exact ⟨h1, h2, h3⟩
theorem Bld.new (w : World) : Bld (w.alloc (.cells #[.pointer none, .slice none 0 0] TB)) w.heap.size w.heap.size [] :=
  .inl ⟨Nat.le_refl _, .slice none 0 0, World.alloc_heap_new w _, World.ownsRow_nil _ _ _ _, by simp [Value.ownBlock]⟩
theorem Bld.lt {w : World} {B b : Nat} {l : T} (h : Bld w B b l) : b < w.heap.size := by
  rcases h with h | h
  · exact h.lt
  · exact h.lt
theorem Bld.base {w : World} {B b : Nat} {l : T} (h : Bld w B b l) : B ≤ b := by
  rcases h with h | h
  · exact h.1
  · exact h.1
theorem Bld.block {w : World} {B b : Nat} {l : T} (h : Bld w B b l) : ∃ c fz, w.heap[b]? = some (.cells c TB fz) := by
  rcases h with ⟨_, v, hb, _⟩ | ⟨_, v, hb, _⟩
  · exact ⟨_, _, hb⟩
  · exact ⟨_, _, hb⟩
/-- What is no cells stands behind a write. -/
theorem Bld.keeps {w w' : World} {B b : Nat} {l : T} (h : Bld w B b l) (hk : Lib.OthersKept TY (some b) w w') (hs : w.heap.size ≤ w'.heap.size) : KeepsOthers w w' := by
  refine ⟨hs, fun k o ho hc => hk k o ho ?_ ?_⟩
  · intro e
    obtain ⟨c, fz, hb⟩ := h.block
    obtain rfl : k = b := by injection e
    rw [ho] at hb
    obtain rfl := Option.some.inj hb
    cases hc
  · rintro c fz rfl
    cases hc
/-- A variable of another type stands behind a write. -/
theorem boxed_kept {w w' : World} {b c : Nat} {t : TypeId} {v : Value} (hk : Lib.OthersKept TY (some b) w w') (h : Boxed w c t v) (hne : c ≠ b) (ht : t ≠ TY) : w'.heap[c]? = w.heap[c]? := by
  rw [hk c _ h (fun e => hne (by injection e)) (fun c' fz e => ht (by injection e))]
  exact h.symm
/-- A builder stays one where its block and its row stand as they stood. -/
theorem Bld.kept {w w' : World} {B b : Nat} {l : T} {row : Option Nat} (h : Bld w B b l) (hg : w.grownBy w' row) (hr : ∀ r, row = some r → ∃ o, w.heap[r]? = some o ∧ (∀ c fz, o ≠ .cells c TB fz) ∧ (∀ c fz, o ≠ .cells c TY fz)) : Bld w' B b l := by
  have one : ∀ p, Lib.BuilderAt TB TY B b p (Lib.byteCells l) w → Lib.BuilderAt TB TY B b p (Lib.byteCells l) w' := by
    rintro p ⟨hB, v, hb, hown, hne⟩
    refine ⟨hB, v, ?_, ?_, hne⟩
    · rw [hg.block b (heap_lt hb) (fun e => ?_)]
      · exact hb
      · obtain ⟨o, ho, h1, _⟩ := hr b e.symm
        rw [hb] at ho
        exact h1 _ _ (Option.some.inj ho).symm
    · refine hown.kept hg ?_
      rcases hv : v.ownBlock with _ | g
      · rcases hown.2 with ⟨rfl, _⟩ | ⟨g', cap, cur, rfl, _, hgg, _⟩
        · exact .inl rfl
        · simp [Value.ownBlock] at hv
      · refine .inr fun e => ?_
        obtain ⟨c, fz, hc⟩ := owns_kind hown g hv
        obtain ⟨o, ho, _, h2⟩ := hr g e.symm
        rw [hc] at ho
        exact h2 _ _ (Option.some.inj ho).symm
  rcases h with h | h
  · exact .inl (one _ h)
  · exact .inr (one _ h)
end Rle
end Go.Proofs.Ythdpcjahficlnaa
