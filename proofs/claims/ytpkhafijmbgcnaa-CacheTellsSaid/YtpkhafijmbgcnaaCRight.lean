/- The contract of cache's Right (chapter 21). -/
import Derived.Test.YtpkhafijmbgcnaaCMem
import Derived.Outline
import Derived.Carry
namespace Go.Proofs.Ytpkhafijmbgcnaa
namespace Cache
open Go.RowKit
set_option linter.unusedVariables false

/-- The first ones held are right. -/
def Pre (clock : Int) (l : List Hd) (k : Nat) : Prop := Good clock (l.take k)
theorem Pre.zero (clock : Int) (l : List Hd) : Pre clock l 0 := by unfold Pre Good Rise Apart; simp
def lastB (l : List Hd) (k : Nat) : Int := if h : 0 < k ∧ k ≤ l.length then (l[k - 1]'(by omega)).blk else -1
theorem lastB_zero (l : List Hd) : lastB l 0 = -1 := by unfold lastB; rw [dif_neg (by omega)]
theorem lastB_succ (l : List Hd) (k : Nat) (h : k < l.length) : lastB l (k + 1) = l[k].blk := by unfold lastB; rw [dif_pos ⟨by omega, by omega⟩]; rfl
theorem lastB_bound (clock : Int) (l : List Hd) (k : Nat) (h : Pre clock l k) (hk : k ≤ l.length) : -1 ≤ lastB l k := by
  unfold lastB
  split
  · rename_i hh
    have := (h.1 (l[k - 1]'(by omega)) (List.mem_take_iff_getElem.2 ⟨k - 1, by omega, rfl⟩)).1
    omega
  · omega
theorem rise_snoc (l : List Hd) (x : Hd) : Rise (l ++ [x]) ↔ Rise l ∧ ∀ y ∈ l, y.blk < x.blk := by unfold Rise; rw [List.pairwise_append]; simp
theorem apart_snoc (l : List Hd) (x : Hd) : Apart (l ++ [x]) ↔ Apart l ∧ ∀ y ∈ l, y.st ≠ x.st := by unfold Apart; rw [List.pairwise_append]; simp
theorem take_snoc (l : List Hd) (k : Nat) (h : k < l.length) : l.take (k + 1) = l.take k ++ [l[k]] := List.take_succ_eq_append_getElem h
theorem below_last (clock : Int) (l : List Hd) (k : Nat) (h : Pre clock l k) (hk : k ≤ l.length) : ∀ y ∈ l.take k, y.blk ≤ lastB l k := by
  intro y hy
  obtain ⟨i, hi, rfl⟩ := List.mem_take_iff_getElem.1 hy
  have hk0 : 0 < k := by omega
  unfold lastB
  rw [dif_pos ⟨hk0, hk⟩]
  by_cases e : i = k - 1
  · subst e; exact Int.le_refl _
  · have hr : Rise (l.take k) := h.2.1
    have := List.pairwise_iff_getElem.1 hr i (k - 1) (by rw [List.length_take]; omega) (by rw [List.length_take]; omega) (by omega)
    rw [List.getElem_take, List.getElem_take] at this
    omega
theorem last_mem (l : List Hd) (k : Nat) (hk : k ≤ l.length) (h0 : 0 < k) : ∃ y ∈ l.take k, y.blk = lastB l k := by
  unfold lastB
  rw [dif_pos ⟨h0, hk⟩]
  exact ⟨_, List.mem_take_iff_getElem.2 ⟨k - 1, by omega, rfl⟩, rfl⟩
theorem Pre.succ (clock : Int) (l : List Hd) (k : Nat) (hk : k < l.length) (h : Pre clock l k) :
    Pre clock l (k + 1) ↔ lastB l k < l[k].blk ∧ 1 ≤ l[k].st ∧ l[k].st ≤ clock ∧ ¬ l[k].st ∈ (l.take k).map Hd.st := by
  have hlb := lastB_bound clock l k h (by omega)
  have hbl := below_last clock l k h (by omega)
  unfold Pre Good
  rw [take_snoc l k hk, rise_snoc, apart_snoc]
  obtain ⟨g1, g2, g3⟩ := h
  constructor
  · rintro ⟨h1, h2, h3⟩
    have hx := h1 l[k] (List.mem_append_right _ (List.mem_singleton.2 rfl))
    refine ⟨?_, hx.2.1, hx.2.2, ?_⟩
    · by_cases h0 : 0 < k
      · obtain ⟨y, hy, e⟩ := last_mem l k (by omega) h0
        rw [← e]; exact h2.2 y hy
      · have hk0 : k = 0 := by omega
        subst hk0
        have h9 := hx.1
        rw [lastB_zero]; omega
    · intro hm
      obtain ⟨y, hy, e⟩ := List.mem_map.1 hm
      exact h3.2 y hy e
  · rintro ⟨h1, h2, h3, h4⟩
    refine ⟨fun y hy => ?_, ⟨g2, fun y hy => ?_⟩, ⟨g3, fun y hy e => ?_⟩⟩
    · rcases List.mem_append.1 hy with hy | hy
      · exact g1 y hy
      · rw [List.mem_singleton] at hy; subst hy; exact ⟨by omega, h2, h3⟩
    · have := hbl y hy; omega
    · exact h4 (List.mem_map.2 ⟨y, hy, e⟩)
theorem Pre.mono (clock : Int) (l : List Hd) (k : Nat) (h : Good clock l) : Pre clock l k :=
  ⟨fun x hx => h.1 x (List.mem_of_mem_take hx), h.2.1.sublist (List.take_sublist _ _), h.2.2.sublist (List.take_sublist _ _)⟩
theorem Pre.all (clock : Int) (l : List Hd) (k : Nat) (hk : l.length ≤ k) (h : Pre clock l k) : Good clock l := by
  unfold Pre at h; rwa [List.take_of_length_le hk] at h
theorem right_head (c : Sh) (h : ¬ (1 ≤ c.room ∧ c.room ≤ 64 ∧ 0 ≤ c.clock ∧ c.clock ≤ MaxC ∧ (c.held.length : Int) ≤ c.room)) : right c = false := by
  rw [right_false]
  intro hr
  exact h ⟨hr.1, hr.2.1, hr.2.2.1, hr.2.2.2.1, hr.2.2.2.2.1⟩
theorem right_stop (c : Sh) (k : Nat) (h : ¬ Pre c.clock c.held k) : right c = false := by
  rw [right_false]
  intro hr
  exact h (Pre.mono _ _ k hr.2.2.2.2.2)

theorem size_alloc' (w : World) (o : Obj) : (w.alloc o).heap.size = w.heap.size + 1 := by simp
/-- The first ones' stamps are seen. -/
def Seen (w : World) (b n : Nat) (xs : List Int) : Prop := w.ownsMap Try.prog 3 (plainElem (H := Unit) Try.prog 4) b n (seen xs)

set_option maxRecDepth 100000 in
set_option maxHeartbeats 2000000 in
theorem right_any (c : Sh) (a : Option Addr) (cap : Nat) (w : World) (hm : c.held.length ≤ maxLen) (hs : HSrc w a c.held) :
    Calls Try.prog 16 #[sval c a cap] w fun e w' => e = .returned (.bool (right c)) ∧ Below w.heap.size w w' := by
  obtain ⟨room, clock, l⟩ := c
  unfold sval
  simp only at hs hm ⊢
  obtain ⟨n, hn⟩ : ∃ n, l.length = n := ⟨_, rfl⟩
  have HS := Lib.hid hs
  have HN := Lib.hid hn
  rw [hn] at hm ⊢
  unfold maxLen at hm
  have hmm := @run_makeMap Try.prog
  clear hs hn
  by_cases hh : 1 ≤ room ∧ room ≤ 64 ∧ 0 ≤ clock ∧ clock ≤ 1099511627776 ∧ (n : Int) ≤ room
  · obtain ⟨h1, h2, h3, h4, h5⟩ := hh
    go_enter Try.func16, Try.ntmps16
    go_wp2
    go_loopw [4, 37] (fun v i wr => ∃ k : Nat, k ≤ n ∧ i = .int .i64 k ∧ v = .int .i64 (lastB l k) ∧ RowKit.Hid (Pre clock l k) ∧ RowKit.Hid (Seen wr (w.heap.size + 1) k ((l.take k).map Hd.st)) ∧ RowKit.Hid (Below (w.heap.size + 1) (w.alloc (.cells #[.int .i64 room, .int .i64 clock, .slice a n cap] TS)) wr)) (fun _ i _ => n - (intOf i).toNat)
    case atStart => exact ⟨0, by omega, rfl, by rw [lastB_zero], Lib.hid (Pre.zero _ _), Lib.hid (by have h := World.ownsMap_made (w.alloc (.cells #[.int .i64 room, .int .i64 clock, .slice a n cap] TS)) Try.prog 3 (plainElem (H := Unit) Try.prog 4); rw [size_alloc'] at h; exact h), Lib.hid ((Below.refl _ _).alloc (by simp) _)⟩
    case round =>
      obtain ⟨k, hk, rfl, rfl, hpre, hseen, hb⟩ := hrel
      have c0 : wr.cell? ⟨w.heap.size, 1, none⟩ = some (.int .i64 clock) := by
        rw [hb.out.cell (p := ⟨w.heap.size, 1, none⟩) (by simp)]; simp
      by_cases hlt : k < n
      · have hlk : k < l.length := by rw [HN.out]; exact hlt
        have hsrc : HSrc wr a l := HS.out.below (((Below.refl _ _).alloc (Nat.le_refl _) _).trans (hb.out.mono (by omega))) rfl
        obtain ⟨b, off, ha, hbl, e0, e1, e2⟩ := hsrc.at_ k hlk
        subst ha
        obtain ⟨blk, hblk⟩ : ∃ x, l[k].blk = x := ⟨_, rfl⟩
        obtain ⟨st, hst⟩ : ∃ x, l[k].st = x := ⟨_, rfl⟩
        obtain ⟨tx, htx⟩ : ∃ x, l[k].txt = x := ⟨_, rfl⟩
        rw [hblk] at e0
        rw [hst] at e1
        rw [htx] at e2
        have HSC := Lib.hid (Pre.succ clock l k hlk hpre.out)
        obtain ⟨lst, hlst⟩ : ∃ x, lastB l k = x := ⟨_, rfl⟩
        rw [hlst, hblk, hst] at HSC
        rw [hlst]
        have HBLK := Lib.hid hblk
        have HST := Lib.hid hst
        have HLST := Lib.hid hlst
        clear hblk hst htx hlst hsrc
        have hz : w.heap.size + 1 ≤ wr.heap.size := by have h := hb.out.size; rw [size_alloc'] at h; exact h
        have hz1 : w.heap.size < wr.heap.size := hz
        have hz2 : ¬ w.heap.size = wr.heap.size := by omega
        have no : ∀ w' : World, Below w.heap.size w w' → ¬ (lst < blk ∧ 1 ≤ st ∧ st ≤ clock ∧ ¬ st ∈ (l.take k).map Hd.st) → Ending.returned (.bool false) = .returned (.bool (right ⟨room, clock, l⟩)) ∧ Below w.heap.size w w' := by
          intro w' hw' hno
          exact ⟨ret_bool (right_stop ⟨room, clock, l⟩ (k + 1) (fun h => hno (HSC.out.1 h))).symm, hw'⟩
        have NO := Lib.hid no
        clear no
        have hbb : Below w.heap.size w wr := ((Below.refl _ _).alloc (Nat.le_refl _) _).trans (hb.out.mono (by omega))
        have HBB := Lib.hid hbb
        clear hbb
        have HB1 := Lib.hid (HBB.out.alloc (by omega) (.cells #[.int .i64 blk, .int .i64 st, .string tx] TH))
        by_cases g1 : lst < blk
        · by_cases g2 : 1 ≤ st ∧ st ≤ clock
          · obtain ⟨g2, g3⟩ := g2
            have hown : Seen (wr.alloc (.cells #[.int .i64 blk, .int .i64 st, .string tx] TH)) (w.heap.size + 1) k ((l.take k).map Hd.st) := World.ownsMap.alloc hseen.out _
            have hlook := look_seen hown st (by omega) (by omega)
            have hkey := key_int (x := st) (by omega) (by omega)
            have HK := Lib.hid hkey
            have HO := Lib.hid hown
            clear hkey hown
            by_cases g4 : st ∈ (l.take k).map Hd.st
            · rw [decide_eq_true g4] at hlook
              have HNO := Lib.hid (NO.out _ HB1.out (fun h => h.2.2.2 g4))
              clear g4
              go_wp2
              go_ret
              exact HNO.out
            · rw [decide_eq_false g4] at hlook
              have G4 := Lib.hid g4
              clear g4
              go_wp2_with (at_mapUpdate; refine wpList_mapUpdate_own _ rfl _ _ _ 54 rfl 3 4 (keyed _ Try.underlying3) Try.underlying54 (plainElem (H := Unit) Try.prog 4) (w.heap.size + 1) k (seen ((l.take k).map Hd.st)) rfl HO.out (by unfold maxLen; omega) _ _ (Lk st) rfl rfl HK.out _ [] (plainElem_bool Try.underlying4 true) ?_; intro w1 hown1 hgrow1)
              have HO1 := Lib.hid hown1
              have HG1 := Lib.hid hgrow1
              clear hown1 hgrow1
              go_wp2
              go_roundw
              case rel =>
                refine ⟨k + 1, by omega, by go_num, ?_, Lib.hid (HSC.out.2 ⟨g1, g2, g3, G4.out⟩), ?_, ?_⟩
                · rw [lastB_succ l k hlk, HBLK.out]
                · rw [take_snoc l k hlk, List.map_append, List.map_cons, List.map_nil, HST.out]
                  refine Lib.hid ?_
                  unfold Seen
                  rw [seen_snoc]
                  exact HO1.out
                · exact Lib.hid (((hb.out.alloc hz _)).grown HG1.out (by rw [size_alloc']; omega) (fun q hq => by injection hq with hq; omega))
              case measure => simp [intOf]; omega
          · have HNO := Lib.hid (NO.out _ HB1.out (fun h => g2 ⟨h.2.1, h.2.2.1⟩))
            by_cases g5 : 1 ≤ st
            · have g6 : ¬ st ≤ clock := fun h => g2 ⟨g5, h⟩
              clear g2
              go_wp2
              go_ret
              exact HNO.out
            · clear g2
              go_wp2
              go_ret
              exact HNO.out
        · have HNO := Lib.hid (NO.out _ HB1.out (fun h => g1 h.1))
          go_wp2
          go_ret
          exact HNO.out
      · go_wp2
        go_ret
        refine ⟨ret_bool ?_, ?_⟩
        · exact ((right_iff _).2 ⟨h1, h2, h3, h4, by simp only [HN.out]; exact h5, Pre.all clock l k (by rw [HN.out]; omega) hpre.out⟩).symm
        · exact ((Below.refl _ _).alloc (Nat.le_refl _) _).trans (hb.out.mono (by omega))
  · have hrf : right ⟨room, clock, l⟩ = false := right_head _ (by simp only [HN.out]; exact hh)
    rw [hrf]
    clear hrf
    have hhh := hh
    clear hh
    go_enter Try.func16, Try.ntmps16
    go_wp2
    all_goals first
      | (exfalso; omega)
      | (go_ret; exact ⟨rfl, (Below.refl _ _).alloc (Nat.le_refl _) _⟩)
end Cache
end Go.Proofs.Ytpkhafijmbgcnaa
