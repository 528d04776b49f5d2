/- The document's New, find, with (chapter 21). -/
import Derived.Test.YtpkhafijmbgcnaaDRight
namespace Go.Proofs.Ytpkhafijmbgcnaa
namespace Cache
open Go.RowKit Go.Shelf
set_option linter.unusedVariables false

/-! ### New -/
theorem right_new (room : Int) : right ⟨room, 0, []⟩ = true ↔ 1 ≤ room ∧ room ≤ 64 := by
  rw [right_iff]
  unfold Right Good Rise Apart MaxC
  simp
  omega
set_option maxRecDepth 100000 in
set_option maxHeartbeats 1000000 in
theorem rnew_any (room : Int) (w : World) :
    Calls Try.prog 12 #[.int .i64 room] w fun e w' => e = .returned (.tuple #[sval (newS room) none 0, .int .i64 (newE room)]) ∧ Below w.heap.size w w' := by
  obtain ⟨W0, hW0⟩ : ∃ W0, w.alloc (.cells #[.int .i64 0, .int .i64 0, .slice none 0 0] TS) = W0 := ⟨_, rfl⟩
  have hb0 : Below w.heap.size w W0 := by rw [← hW0]; exact (Below.refl _ _).alloc (Nat.le_refl _) _
  have hz : w.heap.size < W0.heap.size := by rw [← hW0, size_alloc']; omega
  have hg : Rz W0 w.heap.size := Rz.of (by rw [← hW0]; exact World.alloc_heap_new _ _)
  obtain ⟨r0, r1, r2, f0, f1, f2⟩ := hg
  have HB := Lib.hid hb0
  clear hb0
  by_cases hr : 1 ≤ room ∧ room ≤ 64
  · have E1 := Lib.hid (show newS room = ⟨room, 0, []⟩ by unfold newS; rw [if_pos ((right_new room).2 hr)])
    have E2 := Lib.hid (show newE room = 0 by unfold newE; rw [if_pos ((right_new room).2 hr)])
    obtain ⟨q1, q2⟩ := hr
    go_enter Try.func12, Try.ntmps12
    go_wp2
    obtain ⟨z0, z1, z2⟩ := set3_at (x := .int .i64 room) (y := .int .i64 0) (z := .slice none 0 0) r0 r1 r2
    refine bodyPost_ret (v := .tuple #[.agg #[.int .i64 room, .int .i64 0, .slice none 0 0], .int .i64 0]) ?_ rfl ?_
    · exact results_ct (p := 2) (u := 3) (ty := TS) rfl _ _ _ ⟨w.heap.size, 0, none⟩ _ (by rfl) (load_sh _ _ _ _ _ z0 z1 z2)
    · exact ⟨by rw [E1.out, E2.out]; rfl, Below.set3 HB.out (Nat.le_refl _) _ _ _⟩
  · have hrf : ¬ right ⟨room, 0, []⟩ = true := fun h => hr ((right_new room).1 h)
    have E1 := Lib.hid (show newS room = zero by unfold newS; rw [if_neg hrf])
    have E2 := Lib.hid (show newE room = 1 by unfold newE; rw [if_neg hrf])
    have hc : room < 1 ∨ (1 ≤ room ∧ 64 < room) := by omega
    clear hr hrf
    rcases hc with hc | ⟨hc1, hc2⟩
    all_goals
      go_enter Try.func12, Try.ntmps12
      go_wp2
      obtain ⟨z0, z1, z2⟩ := set3_at (x := .int .i64 0) (y := .int .i64 0) (z := .slice none 0 0) r0 r1 r2
      refine bodyPost_ret (v := .tuple #[.agg #[.int .i64 0, .int .i64 0, .slice none 0 0], .int .i64 1]) ?_ rfl ?_
      · exact results_ct (p := 2) (u := 3) (ty := TS) rfl _ _ _ ⟨w.heap.size, 0, none⟩ _ (by rfl) (load_sh _ _ _ _ _ z0 z1 z2)
      · exact ⟨by rw [E1.out, E2.out]; rfl, Below.set3 HB.out (Nat.le_refl _) _ _ _⟩

/-! ### find -/
/-- A block's place; -1: none. -/
def place (b : Int) (l : List Hd) : Int := match l.findIdx? (fun x => decide (x.blk = b)) with | some i => (i : Int) | none => -1
theorem place_at (b : Int) (l : List Hd) (k : Nat) (hk : k < l.length) (h0 : ∀ y ∈ l.take k, y.blk ≠ b) (h1 : l[k].blk = b) : place b l = (k : Int) := by
  have : l.findIdx? (fun x => decide (x.blk = b)) = some k := by
    rw [List.findIdx?_eq_some_iff_getElem]
    refine ⟨hk, by simpa using h1, fun j hj => ?_⟩
    have := h0 l[j] (List.mem_take_iff_getElem.2 ⟨j, by omega, rfl⟩)
    simpa using this
  unfold place
  rw [this]
theorem place_none (b : Int) (l : List Hd) (h0 : ∀ y ∈ l, y.blk ≠ b) : place b l = -1 := by
  have : l.findIdx? (fun x => decide (x.blk = b)) = none := by
    rw [List.findIdx?_eq_none_iff]
    intro x hx
    simpa using h0 x hx
  unfold place
  rw [this]
theorem place_of_none {b : Int} {l : List Hd} (h : find b l = none) : place b l = -1 := place_none b l (find_none h)
theorem place_of_some {b : Int} {l : List Hd} {x : Hd} (hr : Rise l) (h : find b l = some x) : ∃ k : Nat, ∃ hk : k < l.length, place b l = (k : Int) ∧ l[k] = x := by
  obtain ⟨hm, hb⟩ := find_some h
  obtain ⟨k, hk, e⟩ := List.getElem_of_mem hm
  refine ⟨k, hk, place_at b l k hk (fun y hy => ?_) (by rw [e]; exact hb), e⟩
  obtain ⟨i, hi, rfl⟩ := List.mem_take_iff_getElem.1 hy
  have := List.pairwise_iff_getElem.1 hr i k (by omega) hk (by omega)
  rw [e] at this
  omega
set_option maxRecDepth 100000 in
set_option maxHeartbeats 1000000 in
theorem rfind_any (c : Sh) (a : Option Addr) (cap : Nat) (blk : Int) (w : World) (hm : c.held.length ≤ 1000000) (hs : HSrc w a c.held) :
    Calls Try.prog 29 #[sval c a cap, .int .i64 blk] w fun e w' => e = .returned (.int .i64 (place blk c.held)) ∧ Below w.heap.size w w' := by
  obtain ⟨room, clock, l⟩ := c
  unfold sval
  simp only at hs hm ⊢
  obtain ⟨n, hn⟩ : ∃ n, l.length = n := ⟨_, rfl⟩
  obtain ⟨W0, hW0⟩ : ∃ W0, w.alloc (.cells #[.int .i64 room, .int .i64 clock, .slice a n cap] TS) = W0 := ⟨_, rfl⟩
  have hb0 : Below w.heap.size w W0 := by rw [← hW0]; exact (Below.refl _ _).alloc (Nat.le_refl _) _
  have c2 : W0.cell? ⟨w.heap.size, 2, none⟩ = some (.slice a n cap) := by rw [← hW0]; simp
  have HS := Lib.hid (hs.below hb0 rfl)
  have HB := Lib.hid hb0
  have HN := Lib.hid hn
  rw [hn] at hm ⊢
  clear hs hn hb0
  go_enter Try.func29, Try.ntmps29
  go_wp2
  clear hW0
  go_loop [5] (fun i => ∃ k : Nat, k ≤ n ∧ i = .int .i64 k ∧ RowKit.Hid (∀ y ∈ l.take k, y.blk ≠ blk)) (fun i => n - (intOf i).toNat)
  case atStart => exact ⟨0, by omega, rfl, Lib.hid (fun y hy => by simp at hy)⟩
  case round =>
    obtain ⟨k, hk, rfl, hall⟩ := hrel
    by_cases hlt : k < n
    · have hlk : k < l.length := by rw [HN.out]; exact hlt
      obtain ⟨b, off, ha, hbl, e0, e1, e2⟩ := HS.out.at_ k hlk
      subst ha
      obtain ⟨x, hx⟩ : ∃ x, l[k].blk = x := ⟨_, rfl⟩
      rw [hx] at e0
      have HX := Lib.hid hx
      clear hx e1 e2
      by_cases he : x = blk
      · have HP := Lib.hid (place_at blk l k hlk hall.out (by rw [HX.out, he]))
        have hq : (x == blk) = true := by simpa using he
        clear he
        go_wp2
        go_ret
        exact ⟨ret_int HP.out.symm, HB.out⟩
      · have hq : (x == blk) = false := by simpa using he
        have hnew : ∀ y ∈ l.take (k + 1), y.blk ≠ blk := by
          intro y hy
          rw [take_snoc l k hlk] at hy
          rcases List.mem_append.1 hy with hy | hy
          · exact hall.out y hy
          · rw [List.mem_singleton] at hy; subst hy; rw [HX.out]; exact he
        have HNEW := Lib.hid hnew
        clear hnew
        go_wp2
        go_round
        case rel => exact ⟨k + 1, by omega, by go_num, HNEW⟩
        case measure => simp [intOf]; omega
    · have HP := Lib.hid (place_none blk l (fun y hy => hall.out y (by rw [List.take_of_length_le (by rw [HN.out]; omega)]; exact hy)))
      go_wp2
      go_ret
      exact ⟨ret_int HP.out.symm, HB.out⟩

/-! ### with -/
def wst (h : Hd) (wo : Int) (s : List Hd × Bool) (x : Hd) : List Hd × Bool :=
  let s1 := if s.2 = false ∧ h.blk ≤ x.blk then (s.1 ++ [h], true) else s
  if x.blk ≠ wo ∧ x.blk ≠ h.blk then (s1.1 ++ [x], s1.2) else s1
def wfold (h : Hd) (wo : Int) (l : List Hd) : List Hd × Bool := l.foldl (wst h wo) ([], false)
def wend (h : Hd) (s : List Hd × Bool) : List Hd := if s.2 = false then s.1 ++ [h] else s.1
theorem wfold_snoc (h : Hd) (wo : Int) (l : List Hd) (x : Hd) : wfold h wo (l ++ [x]) = wst h wo (wfold h wo l) x := by unfold wfold; rw [List.foldl_append]; rfl
theorem wend_true (h : Hd) (wo : Int) : ∀ (l : List Hd) (o : List Hd), (∀ x ∈ l, h.blk < x.blk) → wend h (l.foldl (wst h wo) (o, true)) = o ++ drop wo l
  | [], o, _ => by simp [wend, drop]
  | x :: r, o, hl => by
    have hx := hl x (by simp)
    have hr : ∀ y ∈ r, h.blk < y.blk := fun y hy => hl y (by simp [hy])
    rw [List.foldl_cons]
    by_cases hw : x.blk = wo
    · rw [show wst h wo (o, true) x = (o, true) by simp [wst, hw], wend_true h wo r o hr]
      simp [drop, hw]
    · rw [show wst h wo (o, true) x = (o ++ [x], true) by simp [wst, hw]; omega, wend_true h wo r _ hr]
      simp [drop, hw]
theorem put_first (h : Hd) (l : List Hd) (hl : ∀ x ∈ l, h.blk < x.blk) : put h l = h :: l := by
  cases l with
  | nil => rfl
  | cons x r =>
    have := hl x (by simp)
    unfold put
    rw [if_neg (by omega), if_neg (by omega)]
theorem wend_false (h : Hd) (wo : Int) : ∀ (l : List Hd) (o : List Hd), Rise l → wend h (l.foldl (wst h wo) (o, false)) = o ++ put h (drop wo l)
  | [], o, _ => by simp [wend, drop, put]
  | x :: r, o, hl => by
    have hr := hl.tail
    have hh := hl.head
    have hd : ∀ c, ∀ y ∈ drop c r, x.blk < y.blk := fun c y hy => hh y (mem_drop.1 hy).1
    rw [List.foldl_cons]
    by_cases hx : h.blk ≤ x.blk
    · have hr2 : ∀ y ∈ r, h.blk < y.blk := fun y hy => by have := hh y hy; omega
      by_cases he : x.blk = h.blk
      · rw [show wst h wo (o, false) x = (o ++ [h], true) by simp [wst, he], wend_true h wo r _ hr2]
        by_cases hw : x.blk = wo
        · rw [show drop wo (x :: r) = drop wo r by simp [drop, hw], put_first h _ (fun y hy => by have := hd wo y hy; omega)]
          simp
        · rw [show drop wo (x :: r) = x :: drop wo r by simp [drop, hw]]
          unfold put
          rw [if_neg (by omega), if_pos he]
          simp
      · by_cases hw : x.blk = wo
        · rw [show wst h wo (o, false) x = (o ++ [h], true) by simp [wst, hw]; omega, wend_true h wo r _ hr2,
            show drop wo (x :: r) = drop wo r by simp [drop, hw], put_first h _ (fun y hy => by have := hd wo y hy; omega)]
          simp
        · rw [show wst h wo (o, false) x = (o ++ [h] ++ [x], true) by simp [wst, hw, he, hx], wend_true h wo r _ hr2,
            show drop wo (x :: r) = x :: drop wo r by simp [drop, hw]]
          unfold put
          rw [if_neg (by omega), if_neg he]
          simp
    · by_cases hw : x.blk = wo
      · rw [show wst h wo (o, false) x = (o, false) by simp [wst, hw]; omega, wend_false h wo r o hr, show drop wo (x :: r) = drop wo r by simp [drop, hw]]
      · rw [show wst h wo (o, false) x = (o ++ [x], false) by simp [wst, hw, hx]; omega, wend_false h wo r _ hr, show drop wo (x :: r) = x :: drop wo r by simp [drop, hw]]
        conv => rhs; unfold put
        rw [if_pos (by omega)]
        simp
theorem wfold_put (h : Hd) (wo : Int) (l : List Hd) (hr : Rise l) : wend h (wfold h wo l) = put h (drop wo l) := by
  unfold wfold
  rw [wend_false h wo l [] hr]
  rfl
set_option maxRecDepth 100000 in
set_option maxHeartbeats 4000000 in
theorem rwith_any (a : Option Addr) (cap n : Nat) (l : List Hd) (wo : Int) (h : Hd) (w : World) (hn : l.length = n) (hm : n ≤ 1000) (hr : Rise l) (hs : HSrc w a l) :
    Calls Try.prog 30 #[.slice a n cap, .int .i64 wo, hval h] w fun e w' => ∃ a' n' k, e = .returned (.slice a' n' k) ∧ OwnH w' w.heap.size a' n' k (put h (drop wo l)) ∧ Below w.heap.size w w' := by
  obtain ⟨hb, hst, htx⟩ := h
  unfold hval
  simp only
  obtain ⟨W0, hW0⟩ : ∃ W0, w.alloc (.cells #[.int .i64 hb, .int .i64 hst, .string htx] TH) = W0 := ⟨_, rfl⟩
  have hbx : HBox W0 w.heap.size ⟨hb, hst, htx⟩ := by rw [← hW0]; exact HBox.new w ⟨hb, hst, htx⟩
  have hb0 : Below w.heap.size w W0 := by rw [← hW0]; exact (Below.refl _ _).alloc (Nat.le_refl _) _
  have hz0 : W0.heap.size = w.heap.size + 1 := by rw [← hW0, size_alloc']
  have HS := Lib.hid (hs.below hb0 rfl)
  have HB := Lib.hid hb0
  have HN := Lib.hid hn
  have HBX := Lib.hid hbx
  have HZ0 := Lib.hid hz0
  have HPUT := Lib.hid (wfold_put ⟨hb, hst, htx⟩ wo l hr)
  clear hs hn hb0 hbx hz0 hr
  go_enter Try.func30, Try.ntmps30
  go_wp2
  clear hW0
  go_loopw [7, 8, 9] (fun v d i wr => ∃ (k m c : Nat) (p : Option Addr) (O : List Hd) (D : Bool), k ≤ n ∧ m ≤ 2 * k ∧ i = .int .i64 k ∧ v = .slice p m c ∧ d = .bool D ∧ RowKit.Hid (wfold ⟨hb, hst, htx⟩ wo (l.take k) = (O, D)) ∧ RowKit.Hid (OwnH wr W0.heap.size p m c O) ∧ RowKit.Hid (Below W0.heap.size W0 wr)) (fun _ _ i _ => n - (intOf i).toNat)
  case atStart => exact ⟨0, 0, 0, none, [], false, by omega, by omega, rfl, rfl, rfl, Lib.hid rfl, Lib.hid (OwnH.start _ _), Lib.hid (Below.refl _ _)⟩
  case round =>
    obtain ⟨k, m, c, p, O, D, hk, hmk, rfl, rfl, rfl, hfold, hown, hbl⟩ := hrel
    have hbx := HBX.out
    have hzr : w.heap.size + 1 ≤ wr.heap.size := by have := hbl.out.size; rw [HZ0.out] at this; exact this
    have hbr : HBox wr w.heap.size ⟨hb, hst, htx⟩ := (hbl.out.block w.heap.size (by rw [HZ0.out]; omega)).trans hbx
    have HBR := Lib.hid hbr
    obtain ⟨b0, b1, b2⟩ := hbr.at_
    clear hbx hbr
    by_cases hlt : k < n
    · have hlk : k < l.length := by rw [HN.out]; exact hlt
      have hsrc : HSrc wr a l := HS.out.below hbl.out rfl
      have HSR := Lib.hid hsrc
      obtain ⟨b, off, ha, hblk, e0, e1, e2⟩ := hsrc.at_ k hlk
      subst ha
      obtain ⟨x, hx⟩ : ∃ x, l[k] = x := ⟨_, rfl⟩
      have hstep : wfold ⟨hb, hst, htx⟩ wo (l.take (k + 1)) = wst ⟨hb, hst, htx⟩ wo (O, D) x := by rw [take_snoc l k hlk, wfold_snoc, hfold.out, hx]
      obtain ⟨xb, xs, xt⟩ := x
      rw [hx] at e0 e1 e2
      have HSTEP := Lib.hid hstep
      have HXE := Lib.hid hx
      clear hx hsrc hstep
      have hne : b < wr.heap.size := hblk
      have hcase : D = true ∨ (D = false ∧ xb < hb) ∨ (D = false ∧ hb ≤ xb) := by
        cases D
        · by_cases t : hb ≤ xb
          · exact .inr (.inr ⟨rfl, t⟩)
          · exact .inr (.inl ⟨rfl, by omega⟩)
        · exact .inl rfl
      have hbox : b < wr.heap.size ∧ w.heap.size < wr.heap.size := ⟨hblk, by omega⟩
      obtain ⟨hlb, hlw⟩ := hbox
      have HBL := hbl
      rcases hcase with rfl | ⟨rfl, t1⟩ | ⟨rfl, t1⟩
      · have HST1 := Lib.hid (show wfold ⟨hb, hst, htx⟩ wo (l.take (k + 1)) = if xb ≠ wo ∧ xb ≠ hb then (O ++ [⟨xb, xs, xt⟩], true) else (O, true) by rw [HSTEP.out]; unfold wst; simp)
        clear hfold HSTEP hbl
        go_wp2
        go_quiet (fail)
        have HO1 := Lib.hid (hown.out.below (below_drewN (Below.refl wr.heap.size wr) nq) (Nat.le_refl _))
        have HB1 := Lib.hid (below_drewN HBL.out nq)
        obtain ⟨m1, rfl⟩ : ∃ m1, m1 = m := ⟨_, rfl⟩
        obtain ⟨p1, rfl⟩ : ∃ p1, p1 = p := ⟨_, rfl⟩
        obtain ⟨c1, rfl⟩ : ∃ c1, c1 = c := ⟨_, rfl⟩
        obtain ⟨O1, rfl⟩ : ∃ O1, O1 = O := ⟨_, rfl⟩
        have hm1 : m1 ≤ 2 * k + 1 := by omega
        obtain ⟨W1, hW1⟩ : ∃ W1, wr.drewN nq = W1 := ⟨_, rfl⟩
        have hz1 : wr.heap.size ≤ W1.heap.size := by rw [← hW1]; exact Nat.le_refl _
        have g0 : W1.cell? ⟨b, off + k * 3, none⟩ = some (.int .i64 xb) := by rw [← hW1]; exact e0
        have g1 : W1.cell? ⟨b, off + k * 3 + 1, none⟩ = some (.int .i64 xs) := by rw [← hW1]; exact e1
        have g2 : W1.cell? ⟨b, off + k * 3 + 2, none⟩ = some (.string xt) := by rw [← hW1]; exact e2
        have g3 : W1.cell? ⟨w.heap.size, 0, none⟩ = some (.int .i64 hb) := by rw [← hW1]; exact b0
        rw [hW1] at HO1 HB1 ⊢
        clear hW1 hown HBL e0 e1 e2 b0 b1 b2 HBR HSR
        go_wp2
        -- the second test
        by_cases u1 : xb = wo
        · have HT := Lib.hid (show wfold ⟨hb, hst, htx⟩ wo (l.take (k + 1)) = (O1, true) by rw [HST1.out, if_neg (fun h => h.1 u1)])
          have q1 : (xb != wo) = false := by simp [u1]
          clear u1 HST1
          go_quiet (fail)
          have HO2 := Lib.hid (HO1.out.below (below_drewN (Below.refl W1.heap.size W1) nq) (Nat.le_refl _))
          have HB2 := Lib.hid (below_drewN HB1.out nq)
          go_wp2
          go_roundw
          case rel => exact ⟨k + 1, m1, c1, p1, O1, _, by omega, by omega, by go_num, rfl, rfl, HT, HO2, HB2⟩
          case measure => simp [intOf]; omega
        · have q1 : (xb != wo) = true := by simpa using u1
          by_cases u2 : xb = hb
          · have HT := Lib.hid (show wfold ⟨hb, hst, htx⟩ wo (l.take (k + 1)) = (O1, true) by rw [HST1.out, if_neg (fun h => h.2 u2)])
            have q2 : (xb != hb) = false := by simp [u2]
            clear u1 u2 HST1
            go_quiet (fail)
            have HO2 := Lib.hid (HO1.out.below (below_drewN (Below.refl W1.heap.size W1) nq) (Nat.le_refl _))
            have HB2 := Lib.hid (below_drewN HB1.out nq)
            go_wp2
            go_roundw
            case rel => exact ⟨k + 1, m1, c1, p1, O1, _, by omega, by omega, by go_num, rfl, rfl, HT, HO2, HB2⟩
            case measure => simp [intOf]; omega
          · have HT := Lib.hid (show wfold ⟨hb, hst, htx⟩ wo (l.take (k + 1)) = (O1 ++ [⟨xb, xs, xt⟩], true) by rw [HST1.out, if_pos ⟨u1, u2⟩])
            have q2 : (xb != hb) = true := by simpa using u2
            clear u1 u2 HST1
            go_quiet (fail)
            obtain ⟨U, hU⟩ : ∃ U, W1.drewN nq = U := ⟨_, rfl⟩
            have hUb : Below W1.heap.size W1 U := by rw [← hU]; exact below_drewN (Below.refl _ _) nq
            have hzU := hUb.size
            obtain ⟨p4, c4, W4, hr4, ho4, hg4⟩ := ((HO1.out.below hUb (Nat.le_refl _)).alloc (hobj ⟨xb, xs, xt⟩)).app (ty := 23) (some ⟨U.heap.size, 0, none⟩) 1 1 [⟨xb, xs, xt⟩] (HBox.new U _).src rfl (fun h => by cases h) (by omega) (by have := HB1.out.size; simp; omega)
            have HO4 := Lib.hid ho4
            have HB4 := Lib.hid ((HB1.out.trans (hUb.mono HB1.out.size)).trans (((Below.refl W0.heap.size U).alloc (by have := HB1.out.size; omega) _).trans ((Below.refl _ _).grown hg4 (by have := HB1.out.size; simp; omega) (fun q hq => HO1.out.block q hq))))
            have s0 : U.cell? ⟨b, off + k * 3, none⟩ = some (.int .i64 xb) := by rw [← hU]; exact g0
            have s1 : U.cell? ⟨b, off + k * 3 + 1, none⟩ = some (.int .i64 xs) := by rw [← hU]; exact g1
            have s2 : U.cell? ⟨b, off + k * 3 + 2, none⟩ = some (.string xt) := by rw [← hU]; exact g2
            rw [hU]
            clear hU hUb ho4 hg4 g0 g1 g2 g3 HO1 HB1
            go_wp2_with (at_builtin; refine Kit.app_eq rfl (.tmp 49) (.tmp 54) 23 rfl rfl rfl hr4 ?_)
            go_roundw
            case rel => exact ⟨k + 1, m1 + 1, c4, p4, O1 ++ [⟨xb, xs, xt⟩], _, by omega, by omega, by go_num, rfl, rfl, HT, HO4, HB4⟩
            case measure => simp [intOf]; omega
      · have HST1 := Lib.hid (show wfold ⟨hb, hst, htx⟩ wo (l.take (k + 1)) = if xb ≠ wo ∧ xb ≠ hb then (O ++ [⟨xb, xs, xt⟩], false) else (O, false) by rw [HSTEP.out]; unfold wst; simp only; rw [if_neg (show ¬ (True ∧ hb ≤ xb) from fun h => by have := h.2; omega)])
        clear hfold HSTEP hbl
        go_wp2
        go_quiet (fail)
        have HO1 := Lib.hid (hown.out.below (below_drewN (Below.refl wr.heap.size wr) nq) (Nat.le_refl _))
        have HB1 := Lib.hid (below_drewN HBL.out nq)
        obtain ⟨m1, rfl⟩ : ∃ m1, m1 = m := ⟨_, rfl⟩
        obtain ⟨p1, rfl⟩ : ∃ p1, p1 = p := ⟨_, rfl⟩
        obtain ⟨c1, rfl⟩ : ∃ c1, c1 = c := ⟨_, rfl⟩
        obtain ⟨O1, rfl⟩ : ∃ O1, O1 = O := ⟨_, rfl⟩
        have hm1 : m1 ≤ 2 * k + 1 := by omega
        obtain ⟨W1, hW1⟩ : ∃ W1, wr.drewN nq = W1 := ⟨_, rfl⟩
        have hz1 : wr.heap.size ≤ W1.heap.size := by rw [← hW1]; exact Nat.le_refl _
        have g0 : W1.cell? ⟨b, off + k * 3, none⟩ = some (.int .i64 xb) := by rw [← hW1]; exact e0
        have g1 : W1.cell? ⟨b, off + k * 3 + 1, none⟩ = some (.int .i64 xs) := by rw [← hW1]; exact e1
        have g2 : W1.cell? ⟨b, off + k * 3 + 2, none⟩ = some (.string xt) := by rw [← hW1]; exact e2
        have g3 : W1.cell? ⟨w.heap.size, 0, none⟩ = some (.int .i64 hb) := by rw [← hW1]; exact b0
        rw [hW1] at HO1 HB1 ⊢
        clear hW1 hown HBL e0 e1 e2 b0 b1 b2 HBR HSR
        go_wp2
        -- the second test
        by_cases u1 : xb = wo
        · have HT := Lib.hid (show wfold ⟨hb, hst, htx⟩ wo (l.take (k + 1)) = (O1, false) by rw [HST1.out, if_neg (fun h => h.1 u1)])
          have q1 : (xb != wo) = false := by simp [u1]
          clear u1 HST1
          go_quiet (fail)
          have HO2 := Lib.hid (HO1.out.below (below_drewN (Below.refl W1.heap.size W1) nq) (Nat.le_refl _))
          have HB2 := Lib.hid (below_drewN HB1.out nq)
          go_wp2
          go_roundw
          case rel => exact ⟨k + 1, m1, c1, p1, O1, _, by omega, by omega, by go_num, rfl, rfl, HT, HO2, HB2⟩
          case measure => simp [intOf]; omega
        · have q1 : (xb != wo) = true := by simpa using u1
          by_cases u2 : xb = hb
          · have HT := Lib.hid (show wfold ⟨hb, hst, htx⟩ wo (l.take (k + 1)) = (O1, false) by rw [HST1.out, if_neg (fun h => h.2 u2)])
            have q2 : (xb != hb) = false := by simp [u2]
            clear u1 u2 HST1
            go_quiet (fail)
            have HO2 := Lib.hid (HO1.out.below (below_drewN (Below.refl W1.heap.size W1) nq) (Nat.le_refl _))
            have HB2 := Lib.hid (below_drewN HB1.out nq)
            go_wp2
            go_roundw
            case rel => exact ⟨k + 1, m1, c1, p1, O1, _, by omega, by omega, by go_num, rfl, rfl, HT, HO2, HB2⟩
            case measure => simp [intOf]; omega
          · have HT := Lib.hid (show wfold ⟨hb, hst, htx⟩ wo (l.take (k + 1)) = (O1 ++ [⟨xb, xs, xt⟩], false) by rw [HST1.out, if_pos ⟨u1, u2⟩])
            have q2 : (xb != hb) = true := by simpa using u2
            clear u1 u2 HST1
            go_quiet (fail)
            obtain ⟨U, hU⟩ : ∃ U, W1.drewN nq = U := ⟨_, rfl⟩
            have hUb : Below W1.heap.size W1 U := by rw [← hU]; exact below_drewN (Below.refl _ _) nq
            have hzU := hUb.size
            obtain ⟨p4, c4, W4, hr4, ho4, hg4⟩ := ((HO1.out.below hUb (Nat.le_refl _)).alloc (hobj ⟨xb, xs, xt⟩)).app (ty := 23) (some ⟨U.heap.size, 0, none⟩) 1 1 [⟨xb, xs, xt⟩] (HBox.new U _).src rfl (fun h => by cases h) (by omega) (by have := HB1.out.size; simp; omega)
            have HO4 := Lib.hid ho4
            have HB4 := Lib.hid ((HB1.out.trans (hUb.mono HB1.out.size)).trans (((Below.refl W0.heap.size U).alloc (by have := HB1.out.size; omega) _).trans ((Below.refl _ _).grown hg4 (by have := HB1.out.size; simp; omega) (fun q hq => HO1.out.block q hq))))
            have s0 : U.cell? ⟨b, off + k * 3, none⟩ = some (.int .i64 xb) := by rw [← hU]; exact g0
            have s1 : U.cell? ⟨b, off + k * 3 + 1, none⟩ = some (.int .i64 xs) := by rw [← hU]; exact g1
            have s2 : U.cell? ⟨b, off + k * 3 + 2, none⟩ = some (.string xt) := by rw [← hU]; exact g2
            rw [hU]
            clear hU hUb ho4 hg4 g0 g1 g2 g3 HO1 HB1
            go_wp2_with (at_builtin; refine Kit.app_eq rfl (.tmp 49) (.tmp 54) 23 rfl rfl rfl hr4 ?_)
            go_roundw
            case rel => exact ⟨k + 1, m1 + 1, c4, p4, O1 ++ [⟨xb, xs, xt⟩], _, by omega, by omega, by go_num, rfl, rfl, HT, HO4, HB4⟩
            case measure => simp [intOf]; omega
      · have HST1 := Lib.hid (show wfold ⟨hb, hst, htx⟩ wo (l.take (k + 1)) = if xb ≠ wo ∧ xb ≠ hb then (O ++ [⟨hb, hst, htx⟩] ++ [⟨xb, xs, xt⟩], true) else (O ++ [⟨hb, hst, htx⟩], true) by rw [HSTEP.out]; unfold wst; simp [t1])
        clear hfold HSTEP hbl
        go_wp2
        go_quiet (fail)
        obtain ⟨V, hV⟩ : ∃ V, wr.drewN nq = V := ⟨_, rfl⟩
        have hzV : V.heap.size = wr.heap.size := by rw [← hV]; rfl
        have hVb : Below wr.heap.size wr V := by rw [← hV]; exact below_drewN (Below.refl _ _) nq
        obtain ⟨p1, c1, W1, hr3, ho3, hg3⟩ := ((hown.out.below hVb (Nat.le_refl _)).alloc (hobj ⟨hb, hst, htx⟩)).app (ty := 23) (some ⟨V.heap.size, 0, none⟩) 1 1 [⟨hb, hst, htx⟩] (HBox.new V _).src rfl (fun h => by cases h) (by omega) (by have := HBL.out.size; simp; omega)
        have HO1 := Lib.hid ho3
        have hb3 : Below wr.heap.size wr V → Below W0.heap.size V W1 := fun _ => ((Below.refl W0.heap.size V).alloc (by have := HBL.out.size; omega) _).trans ((Below.refl _ _).grown hg3 (by have := HBL.out.size; simp; omega) (fun q hq => hown.out.block q hq))
        have HB1 := Lib.hid ((HBL.out.trans (hVb.mono HBL.out.size)).trans (hb3 hVb))
        obtain ⟨O1, hO1⟩ : ∃ O1, O ++ [⟨hb, hst, htx⟩] = O1 := ⟨_, rfl⟩
        rw [hO1] at HO1 HST1
        obtain ⟨m1, hm1e⟩ : ∃ m1, m + 1 = m1 := ⟨_, rfl⟩
        rw [hm1e] at HO1 hr3
        have hm1 : m1 ≤ 2 * k + 1 := by omega
        have v0 : V.cell? ⟨w.heap.size, 0, none⟩ = some (.int .i64 hb) := by rw [← hV]; exact b0
        have v1 : V.cell? ⟨w.heap.size, 1, none⟩ = some (.int .i64 hst) := by rw [← hV]; exact b1
        have v2 : V.cell? ⟨w.heap.size, 2, none⟩ = some (.string htx) := by rw [← hV]; exact b2
        have hgs := hg3.size
        rw [size_alloc'] at hgs
        have hz1 : wr.heap.size ≤ W1.heap.size := by omega
        have far : ∀ q, q < wr.heap.size → (∀ B, (Value.slice p m c).ownBlock = some B → q ≠ B) → W1.heap[q]? = wr.heap[q]? := by
          intro q hq hne
          rw [hg3.block q (by rw [size_alloc']; omega) (fun e => hne q e.symm rfl), Below.heap_alloc _ _ _ (by omega)]
          exact hVb.block q hq
        have far0 : ∀ i, W1.cell? ⟨w.heap.size, i, none⟩ = wr.cell? ⟨w.heap.size, i, none⟩ := fun i => World.cell?_of_block (far w.heap.size hlw (fun B hB e => by have := hown.out.block B hB; rw [HZ0.out] at this; omega))
        have hsW : HSrc W1 (some ⟨b, off, none⟩) l := HS.out.below HB1.out rfl
        obtain ⟨b', off', ha, _, g0, g1, g2⟩ := hsW.at_ k hlk
        injection ha with ha
        injection ha with hq1 hq2
        subst hq1 hq2
        rw [HXE.out] at g0 g1 g2
        have g3 : W1.cell? ⟨w.heap.size, 0, none⟩ = some (.int .i64 hb) := by rw [far0]; exact b0
        rw [hV]
        clear hV hVb hb3 far far0 hsW hown HBL e0 e1 e2 b0 b1 b2 HBR HSR hgs ho3 hg3 hO1 hm1e hzV
        go_wp2_with (at_builtin; refine Kit.app_eq rfl (.tmp 28) (.tmp 30) 23 rfl rfl rfl hr3 ?_)
        clear hr3 v0 v1 v2
        -- the second test
        by_cases u1 : xb = wo
        · have HT := Lib.hid (show wfold ⟨hb, hst, htx⟩ wo (l.take (k + 1)) = (O1, true) by rw [HST1.out, if_neg (fun h => h.1 u1)])
          have q1 : (xb != wo) = false := by simp [u1]
          clear u1 HST1
          go_quiet (fail)
          have HO2 := Lib.hid (HO1.out.below (below_drewN (Below.refl W1.heap.size W1) nq) (Nat.le_refl _))
          have HB2 := Lib.hid (below_drewN HB1.out nq)
          go_wp2
          go_roundw
          case rel => exact ⟨k + 1, m1, c1, p1, O1, _, by omega, by omega, by go_num, rfl, rfl, HT, HO2, HB2⟩
          case measure => simp [intOf]; omega
        · have q1 : (xb != wo) = true := by simpa using u1
          by_cases u2 : xb = hb
          · have HT := Lib.hid (show wfold ⟨hb, hst, htx⟩ wo (l.take (k + 1)) = (O1, true) by rw [HST1.out, if_neg (fun h => h.2 u2)])
            have q2 : (xb != hb) = false := by simp [u2]
            clear u1 u2 HST1
            go_quiet (fail)
            have HO2 := Lib.hid (HO1.out.below (below_drewN (Below.refl W1.heap.size W1) nq) (Nat.le_refl _))
            have HB2 := Lib.hid (below_drewN HB1.out nq)
            go_wp2
            go_roundw
            case rel => exact ⟨k + 1, m1, c1, p1, O1, _, by omega, by omega, by go_num, rfl, rfl, HT, HO2, HB2⟩
            case measure => simp [intOf]; omega
          · have HT := Lib.hid (show wfold ⟨hb, hst, htx⟩ wo (l.take (k + 1)) = (O1 ++ [⟨xb, xs, xt⟩], true) by rw [HST1.out, if_pos ⟨u1, u2⟩])
            have q2 : (xb != hb) = true := by simpa using u2
            clear u1 u2 HST1
            go_quiet (fail)
            obtain ⟨U, hU⟩ : ∃ U, W1.drewN nq = U := ⟨_, rfl⟩
            have hUb : Below W1.heap.size W1 U := by rw [← hU]; exact below_drewN (Below.refl _ _) nq
            have hzU := hUb.size
            obtain ⟨p4, c4, W4, hr4, ho4, hg4⟩ := ((HO1.out.below hUb (Nat.le_refl _)).alloc (hobj ⟨xb, xs, xt⟩)).app (ty := 23) (some ⟨U.heap.size, 0, none⟩) 1 1 [⟨xb, xs, xt⟩] (HBox.new U _).src rfl (fun h => by cases h) (by omega) (by have := HB1.out.size; simp; omega)
            have HO4 := Lib.hid ho4
            have HB4 := Lib.hid ((HB1.out.trans (hUb.mono HB1.out.size)).trans (((Below.refl W0.heap.size U).alloc (by have := HB1.out.size; omega) _).trans ((Below.refl _ _).grown hg4 (by have := HB1.out.size; simp; omega) (fun q hq => HO1.out.block q hq))))
            have s0 : U.cell? ⟨b, off + k * 3, none⟩ = some (.int .i64 xb) := by rw [← hU]; exact g0
            have s1 : U.cell? ⟨b, off + k * 3 + 1, none⟩ = some (.int .i64 xs) := by rw [← hU]; exact g1
            have s2 : U.cell? ⟨b, off + k * 3 + 2, none⟩ = some (.string xt) := by rw [← hU]; exact g2
            rw [hU]
            clear hU hUb ho4 hg4 g0 g1 g2 g3 HO1 HB1
            go_wp2_with (at_builtin; refine Kit.app_eq rfl (.tmp 49) (.tmp 54) 23 rfl rfl rfl hr4 ?_)
            go_roundw
            case rel => exact ⟨k + 1, m1 + 1, c4, p4, O1 ++ [⟨xb, xs, xt⟩], _, by omega, by omega, by go_num, rfl, rfl, HT, HO4, HB4⟩
            case measure => simp [intOf]; omega
    · have hkn : k = n := by omega
      subst hkn
      have hlast : wend ⟨hb, hst, htx⟩ (O, D) = put ⟨hb, hst, htx⟩ (drop wo l) := by
        rw [← HPUT.out, ← hfold.out, List.take_of_length_le (by rw [HN.out]; exact Nat.le_refl _)]
      have HLAST := Lib.hid hlast
      clear hlast
      have HBW := Lib.hid (HB.out.trans (hbl.out.mono (by rw [HZ0.out]; omega)))
      cases D
      · obtain ⟨p3, c3, w3, hr3, ho3, hg3⟩ := (hown.out.alloc (hobj ⟨hb, hst, htx⟩)).app (ty := 23) (some ⟨wr.heap.size, 0, none⟩) 1 1 [⟨hb, hst, htx⟩] (HBox.new wr _).src rfl (fun h => by cases h) (by omega) (by have := hbl.out.size; simp; omega)
        have HO3 := Lib.hid (ho3.base (B' := w.heap.size) (by rw [HZ0.out]; omega))
        have HB3 := Lib.hid (HBW.out.trans (((Below.refl w.heap.size wr).alloc (by omega) _).trans ((Below.refl _ _).grown hg3 (by simp; omega) (fun q hq => by have := hown.out.block q hq; rw [HZ0.out] at this; omega))))
        clear ho3 hg3
        go_wp2_with (at_builtin; refine Kit.app_eq rfl (.tmp 58) (.tmp 60) 23 rfl rfl rfl hr3 ?_)
        go_ret
        refine ⟨_, _, _, rfl, ?_, HB3.out⟩
        have h := HLAST.out
        unfold wend at h
        rw [if_pos rfl] at h
        rw [← h]
        exact HO3.out
      · go_wp2
        go_ret
        refine ⟨_, _, _, rfl, ?_, HBW.out⟩
        have h := HLAST.out
        unfold wend at h
        rw [if_neg (by simp)] at h
        rw [← h]
        exact hown.out.base (by rw [HZ0.out]; omega)
end Cache
end Go.Proofs.Ytpkhafijmbgcnaa
