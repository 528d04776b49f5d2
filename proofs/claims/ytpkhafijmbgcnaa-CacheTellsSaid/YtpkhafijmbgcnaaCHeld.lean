/- Slices of what is held (three cells an element) that a call makes itself, and what is appended to them (chapter 21). -/
import Derived.Test.YtpkhafijmbgcnaaCMem
import Derived.Laws.OwnMore
import Derived.Lib.SmallJoins
namespace Go.Proofs.Ytpkhafijmbgcnaa
namespace Cache
open Go.RowKit
set_option linter.unusedVariables false

def flat (l : List Hd) : List Value := l.flatMap hcells
theorem flat_nil : flat [] = [] := rfl
theorem flat_one (x : Hd) : flat [x] = hcells x := by simp [flat]
theorem flat_append (l m : List Hd) : flat (l ++ m) = flat l ++ flat m := by simp [flat]
theorem flat_snoc (l : List Hd) (x : Hd) : flat (l ++ [x]) = flat l ++ hcells x := by rw [flat_append, flat_one]
theorem flat_length : ∀ l : List Hd, (flat l).length = l.length * 3
  | [] => rfl
  | x :: l => by
    have := flat_length l
    show (hcells x ++ flat l).length = _
    rw [List.length_append, this]
    simp; omega
theorem flat_get : ∀ (l : List Hd) (j : Nat) (h : Hd), l[j]? = some h → (flat l)[j * 3]? = some (.int .i64 h.blk) ∧ (flat l)[j * 3 + 1]? = some (.int .i64 h.st) ∧ (flat l)[j * 3 + 2]? = some (.string h.txt)
  | [], j, h, e => by simp at e
  | x :: l, 0, h, e => by
    simp at e; subst e
    exact ⟨rfl, rfl, rfl⟩
  | x :: l, j + 1, h, e => by
    have ih := flat_get l j h (by simpa using e)
    have e3 : (j + 1) * 3 = j * 3 + 3 := by omega
    rw [e3]
    exact ih
theorem flat_one_cell (l : List Hd) : ∀ u ∈ flat l, u.oneCell' = true := by
  intro u hu
  unfold flat at hu
  obtain ⟨x, _, hx⟩ := List.mem_flatMap.1 hu
  simp at hx
  rcases hx with rfl | rfl | rfl <;> rfl
/-- A slice's value of n elements, that owns its cells. -/
def OwnH (w : World) (B : Nat) (a : Option Addr) (n c : Nat) (l : List Hd) : Prop := w.ownsRow B TH 3 (.slice a n c) n (flat l)
theorem OwnH.len {w : World} {B : Nat} {a : Option Addr} {n c : Nat} {l : List Hd} (h : OwnH w B a n c l) : l.length = n := by
  have h1 := h.1
  rw [flat_length] at h1
  omega
theorem OwnH.start (w : World) (B : Nat) : OwnH w B none 0 0 [] := World.ownsRow_nil w B TH 3
theorem OwnH.alloc {w : World} {B : Nat} {a : Option Addr} {n c : Nat} {l : List Hd} (h : OwnH w B a n c l) (o : Obj) : OwnH (w.alloc o) B a n c l := World.ownsRow.alloc h o
theorem OwnH.below {w w' : World} {B D : Nat} {a : Option Addr} {n c : Nat} {l : List Hd} (h : OwnH w B a n c l) (hb : Below D w w') (hD : w.heap.size ≤ D) : OwnH w' B a n c l := by
  obtain ⟨h1, h2⟩ := h
  refine ⟨h1, ?_⟩
  rcases h2 with h2 | ⟨g, cap, cur, hv, hbg, hg, r⟩
  · exact .inl h2
  · refine .inr ⟨g, cap, cur, hv, hbg, ?_, r⟩
    have hlt : g < w.heap.size := by
      rcases Nat.lt_or_ge g w.heap.size with hlt | hge
      · exact hlt
      · rw [Array.getElem?_eq_none hge] at hg; cases hg
    rw [hb.block g (by omega), hg]
theorem OwnH.base {w : World} {B B' : Nat} {a : Option Addr} {n c : Nat} {l : List Hd} (h : OwnH w B a n c l) (hB : B' ≤ B) : OwnH w B' a n c l := by
  obtain ⟨h1, h2⟩ := h
  refine ⟨h1, ?_⟩
  rcases h2 with h2 | ⟨g, cap, cur, hv, hbg, r⟩
  · exact .inl h2
  · exact .inr ⟨g, cap, cur, hv, by omega, r⟩
theorem OwnH.block {w : World} {B : Nat} {a : Option Addr} {n c : Nat} {l : List Hd} (h : OwnH w B a n c l) : ∀ k, (Value.slice a n c).ownBlock = some k → B ≤ k := fun k hk => (World.ownsRow.lt h k hk).1
theorem OwnH.at_ {w : World} {B : Nat} {a : Option Addr} {n c : Nat} {l : List Hd} (h : OwnH w B a n c l) (hn : 0 < n) : ∃ g, a = some ⟨g, 0, none⟩ ∧ B ≤ g ∧ g < w.heap.size ∧ n ≤ c := by
  obtain ⟨h1, h2⟩ := h
  rcases h2 with ⟨_, h2⟩ | ⟨g, cap, cur, hv, hb, hg, hnc, _⟩
  · omega
  · injection hv with ha hn' hc
    subst ha hc
    refine ⟨g, rfl, hb, ?_, hnc⟩
    rcases Nat.lt_or_ge g w.heap.size with hlt | hge
    · exact hlt
    · rw [Array.getElem?_eq_none hge] at hg; cases hg
theorem OwnH.src {w : World} {B : Nat} {a : Option Addr} {n c : Nat} {l : List Hd} (h : OwnH w B a n c l) : HSrc w a l := by
  intro j x hx
  have hl := h.len
  have hj : j < l.length := by
    rcases Nat.lt_or_ge j l.length with h1 | h1
    · exact h1
    · rw [List.getElem?_eq_none h1] at hx; cases hx
  obtain ⟨g, ha, _, _, _⟩ := h.at_ (by omega)
  subst ha
  obtain ⟨e0, e1, e2⟩ := flat_get l j x hx
  refine ⟨g, 0, rfl, ?_, ?_, ?_⟩
  · rw [Nat.zero_add, World.ownsRow.cellAt h _ (by omega), e0]
  · rw [Nat.zero_add, World.ownsRow.cellAt h _ (by omega), e1]
  · rw [Nat.zero_add, World.ownsRow.cellAt h _ (by omega), e2]
theorem addr_add (b off i : Nat) : (⟨b, off, none⟩ : Addr).add i = ⟨b, off + i, none⟩ := by
  unfold Addr.add; split <;> simp_all
theorem flat_at (l : List Hd) (i : Nat) (u : Value) (h : (flat l)[i]? = some u) : ∃ x, l[i / 3]? = some x ∧ (hcells x)[i % 3]? = some u := by
  induction l generalizing i with
  | nil => simp [flat] at h
  | cons y r ih =>
    change (hcells y ++ flat r)[i]? = some u at h
    rw [List.getElem?_append] at h
    split at h
    · rename_i hi
      have hi3 : i < 3 := by simpa using hi
      exact ⟨y, by rw [Nat.div_eq_of_lt hi3]; rfl, by rw [Nat.mod_eq_of_lt hi3]; exact h⟩
    · rename_i hi
      have hi3 : 3 ≤ i := by simpa using hi
      obtain ⟨x, hx, hu⟩ := ih (i - 3) (by simpa using h)
      refine ⟨x, ?_, ?_⟩
      · rw [show i / 3 = (i - 3) / 3 + 1 by omega]; simpa using hx
      · rw [show i % 3 = (i - 3) % 3 by omega]; exact hu
/-- A slice that reads as these, cell by cell. -/
theorem HSrc.cells {w : World} {b off : Nat} {l : List Hd} (h : HSrc w (some ⟨b, off, none⟩) l) : ∀ i u, (flat l)[i]? = some u → w.cell? ((⟨b, off, none⟩ : Addr).add i) = some u := by
  intro i u hu
  obtain ⟨x, hx, hc⟩ := flat_at l i u hu
  obtain ⟨b', off', ha, h0, h1, h2⟩ := h _ x hx
  injection ha with ha
  injection ha with hb ho
  subst hb ho
  rw [addr_add]
  have hd := Nat.div_add_mod i 3
  have hm : i % 3 < 3 := Nat.mod_lt _ (by omega)
  rcases hk : i % 3 with _ | _ | _ | k
  · rw [hk] at hc hd
    simp at hc; subst hc
    rw [show off + i = off + i / 3 * 3 by omega]; exact h0
  · rw [hk] at hc hd
    simp at hc; subst hc
    rw [show off + i = off + i / 3 * 3 + 1 by omega]; exact h1
  · rw [hk] at hc hd
    simp at hc; subst hc
    rw [show off + i = off + i / 3 * 3 + 2 by omega]; exact h2
  · omega
theorem infoH : (Try.prog.info? TH).map (fun i => (i.zero, i.size, i.bytes)) = some (some (.agg #[.int .i64 0, .int .i64 0, .string ⟨#[]⟩]), 3, 32) := by kernel_rfl
theorem OwnH.app {w : World} {B : Nat} {ty : TypeId} {a : Option Addr} {n c : Nat} {l : List Hd} (h : OwnH w B a n c l)
    (x : Option Addr) (m cx : Nat) (news : List Hd) (hs : HSrc w x news) (hm : news.length = m) (hx : x = none → m = 0 ∧ cx = 0) (h63 : n + m ≤ 100000) (hbase : B ≤ w.heap.size) :
    ∃ a' c' w', (Builtin.append_ #[23, 23] ty #[.slice a n c, .slice x m cx]).run Try.prog w = .ok (.slice a' (n + m) c') w' ∧ OwnH w' B a' (n + m) c' (l ++ news) ∧ w.grownBy w' (Value.ownBlock (.slice a n c)) := by
  obtain ⟨i, hi, hz0, hz1, hz2⟩ := info_parts infoH
  have form : ∀ {v : Value} {w' : World} {k : Nat} {ys : List Value}, w'.ownsRow B TH 3 v k ys → ∃ a' c', v = .slice a' k c' := by
    intro v w' k ys hv
    rcases Joins.ownsRow_forms hv with ⟨rfl, rfl⟩ | ⟨g, cap, rfl⟩
    · exact ⟨_, _, rfl⟩
    · exact ⟨_, _, rfl⟩
  cases x with
  | none =>
    obtain ⟨rfl, rfl⟩ := hx rfl
    have hn : news = [] := List.eq_nil_of_length_eq_zero hm
    subst hn
    refine ⟨a, c, w, run_append_owned_none (P := Try.prog) (w := w) B 23 ty TH i 3 Try.underlying23 hi _ n (flat l) h, by simpa using h, ⟨rfl, rfl, rfl, Nat.le_refl _, fun _ _ _ => rfl⟩⟩
  | some y =>
    by_cases h0 : m = 0
    · subst h0
      have hn : news = [] := List.eq_nil_of_length_eq_zero hm
      subst hn
      obtain ⟨v', w', hr, ho, hg, _⟩ := run_append_own (P := Try.prog) w B 23 ty TH i _ 3 32 Try.underlying23 hi hz0 hz1 hz2 rfl (by omega) _ n (flat l) h y 0 cx [] rfl (fun j u hu => by simp at hu) (fun u hu => by simp at hu) (by unfold maxLen; omega) (by omega) hbase
      obtain ⟨a', c', rfl⟩ := form ho
      exact ⟨a', c', w', hr, by rw [List.append_nil] at ho ⊢; exact ho, hg⟩
    · obtain ⟨b, off, hb, _⟩ := hs 0 news[0] (List.getElem?_eq_getElem (by omega))
      injection hb with hb
      subst hb
      obtain ⟨v', w', hr, ho, hg, _⟩ := run_append_own (P := Try.prog) w B 23 ty TH i _ 3 32 Try.underlying23 hi hz0 hz1 hz2 rfl (by omega) _ n (flat l) h ⟨b, off, none⟩ m cx (flat news) (by rw [flat_length, hm]) hs.cells (flat_one_cell _) (by unfold maxLen; omega) (by omega) hbase
      obtain ⟨a', c', rfl⟩ := form ho
      exact ⟨a', c', w', hr, by unfold OwnH; rw [flat_append]; exact ho, hg⟩
end Cache
end Go.Proofs.Ytpkhafijmbgcnaa
