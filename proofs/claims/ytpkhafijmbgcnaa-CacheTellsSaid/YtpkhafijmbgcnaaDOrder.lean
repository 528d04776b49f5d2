/- The document's Order (chapter 21). -/
import Derived.Test.YtpkhafijmbgcnaaDCalls
namespace Go.Proofs.Ytpkhafijmbgcnaa
namespace Cache
open Go.RowKit Go.Shelf
set_option linter.unusedVariables false

/-- How many were used later. -/
def later (l : List Hd) (s : Int) : Nat := (l.filter fun y => decide (s < y.st)).length
theorem later_snoc (l : List Hd) (y : Hd) (s : Int) : later (l ++ [y]) s = later l s + if s < y.st then 1 else 0 := by
  unfold later
  rw [List.filter_append, List.length_append]
  by_cases h : s < y.st <;> simp [h]
theorem later_le (l : List Hd) (s : Int) : later l s ≤ l.length := List.length_filter_le _ _
theorem later_perm {l m : List Hd} (h : l.Perm m) (s : Int) : later l s = later m s := (h.filter _).length_eq
theorem later_desc : ∀ (l : List Hd) (m : Nat) (hm : m < l.length), (l.Pairwise fun x y => y.st < x.st) → later l l[m].st = m
  | [], m, hm, _ => by simp at hm
  | x :: r, 0, _, h => by
    obtain ⟨h1, _⟩ := List.pairwise_cons.1 h
    unfold later
    simp only [List.getElem_cons_zero, List.length_eq_zero_iff, List.filter_eq_nil_iff, decide_eq_true_eq]
    intro y hy
    rcases List.mem_cons.1 hy with rfl | hy
    · omega
    · have := h1 y hy; omega
  | x :: r, m + 1, hm, h => by
    obtain ⟨h1, h2⟩ := List.pairwise_cons.1 h
    have hmr : m < r.length := by simpa using hm
    have ih := later_desc r m hmr h2
    have hx := h1 r[m] (List.getElem_mem _)
    unfold later at ih ⊢
    simp only [List.getElem_cons_succ]
    rw [List.filter_cons, if_pos (by simpa using hx), List.length_cons, ih]
theorem later_ord (l : List Hd) (h : Apart l) (m : Nat) (hm : m < (ord l).length) : later l (ord l)[m].st = m := by
  rw [later_perm (ord_perm l).symm]
  exact later_desc (ord l) m hm (ord_sorted l h)
/-- Who has so many later ones is the one of that place. -/
theorem ord_at (l : List Hd) (h : Apart l) (x : Hd) (hx : x ∈ l) (m : Nat) (e : later l x.st = m) (hm : m < (ord l).length) : (ord l)[m] = x := by
  obtain ⟨j, hj, hje⟩ := List.getElem_of_mem ((ord_perm l).symm.subset hx)
  have := later_ord l h j hj
  rw [hje, e] at this
  subst this
  exact hje
theorem ord_there (l : List Hd) (h : Apart l) (m : Nat) (hm : m < l.length) : ∃ j, ∃ hj : j < l.length, later l l[j].st = m := by
  have hm2 : m < (ord l).length := by rw [ord_length]; exact hm
  obtain ⟨j, hj, e⟩ := List.getElem_of_mem ((ord_perm l).subset (List.getElem_mem hm2))
  exact ⟨j, hj, by rw [e]; exact later_ord l h m hm2⟩
/-- The last one among the first i that has m later ones. -/
def Best (l : List Hd) (m i : Nat) (b : Int) : Prop := (b = -1 ∧ ∀ j, (hj : j < l.length) → j < i → later l l[j].st ≠ m) ∨ ∃ j : Nat, ∃ hj : j < l.length, b = (j : Int) ∧ later l l[j].st = m
theorem Best.start (l : List Hd) (m : Nat) : Best l m 0 (-1) := .inl ⟨rfl, fun j _ h => absurd h (by omega)⟩
theorem Best.hit (l : List Hd) (m i : Nat) (hi : i < l.length) (h : later l l[i].st = m) : Best l m (i + 1) (i : Int) := .inr ⟨i, hi, rfl, h⟩
theorem Best.miss {l : List Hd} {m i : Nat} {b : Int} (hb : Best l m i b) (hi : i < l.length) (h : later l l[i].st ≠ m) : Best l m (i + 1) b := by
  rcases hb with ⟨e, h1⟩ | h1
  · refine .inl ⟨e, fun j hj hji => ?_⟩
    by_cases e2 : j = i
    · subst e2; exact h
    · exact h1 j hj (by omega)
  · exact .inr h1
theorem Best.done {l : List Hd} {m : Nat} {b : Int} (hb : Best l m l.length b) (h : Apart l) (hm : m < l.length) : ∃ j : Nat, ∃ hj : j < l.length, b = (j : Int) ∧ (ord l)[m]'(by rw [ord_length]; exact hm) = l[j] := by
  rcases hb with ⟨_, h1⟩ | ⟨j, hj, e, h1⟩
  · obtain ⟨j, hj, h2⟩ := ord_there l h m hm
    exact absurd h2 (h1 j hj hj)
  · exact ⟨j, hj, e, ord_at l h l[j] (List.getElem_mem hj) m h1 (by rw [ord_length]; exact hm)⟩

set_option maxRecDepth 100000 in
set_option maxHeartbeats 4000000 in
theorem rorder_any (c : Sh) (a : Option Addr) (cap : Nat) (w : World) (hm : c.held.length ≤ 1000000) (hs : HSrc w a c.held) :
    Calls Try.prog 20 #[sval c a cap] w fun e w' => ∃ a' n k, e = .returned (.slice a' n k) ∧ Kit.Own w' w.heap.size TI a' n k ((order c).map inum) ∧ Below w.heap.size w w' := by
  obtain ⟨W0, hW0⟩ : ∃ W0, w.alloc (.cells #[.int .i64 c.room, .int .i64 c.clock, .slice a c.held.length cap] TS) = W0 := ⟨_, rfl⟩
  have hb0 : Below w.heap.size w W0 := by rw [← hW0]; exact (Below.refl _ _).alloc (Nat.le_refl _) _
  have hsz : W0.heap.size = w.heap.size + 1 := by rw [← hW0, size_alloc']
  have c0 : W0.cell? ⟨w.heap.size, 0, none⟩ = some (.int .i64 c.room) := by rw [← hW0]; simp
  have c1 : W0.cell? ⟨w.heap.size, 1, none⟩ = some (.int .i64 c.clock) := by rw [← hW0]; simp
  have c2 : W0.cell? ⟨w.heap.size, 2, none⟩ = some (.slice a c.held.length cap) := by rw [← hW0]; simp
  have HR := Lib.hid (rright_any c a cap W0 (by unfold maxLen; omega) (hs.below hb0 rfl))
  have HS := Lib.hid (hs.below hb0 rfl)
  have HW := Lib.hid hW0
  have HB0 := Lib.hid hb0
  have HSZ := Lib.hid hsz
  clear hs hW0 hb0 hsz
  unfold sval at HR ⊢
  go_enter Try.func20, Try.ntmps20
  go_wp2_with fail
  rw [show w.alloc (.cells #[.int .i64 c.room, .int .i64 c.clock, .slice a c.held.length cap] TS) = W0 from HW.out]
  refine HR.out.mono ?_
  rintro e W ⟨rfl, hbW⟩
  have hszW : w.heap.size < W.heap.size := by have := hbW.size; rw [HSZ.out] at this; omega
  have d2 : W.cell? ⟨w.heap.size, 2, none⟩ = some (.slice a c.held.length cap) := by rw [hbW.cell (p := ⟨w.heap.size, 2, none⟩) (by rw [HSZ.out]; show w.heap.size < _; omega)]; exact c2
  have HSW := Lib.hid (HS.out.below hbW rfl)
  have HBW := Lib.hid (HB0.out.trans (hbW.mono (by rw [HSZ.out]; omega)))
  clear hbW c0 c1 c2
  by_cases hr : right c = true
  · have HRT := Lib.hid hr
    have hgd := (right_iff c).1 hr
    unfold Right at hgd
    have hlen : c.held.length ≤ 64 := by omega
    have HAP := Lib.hid hgd.2.2.2.2.2.2.2
    have hord : order c = (ord c.held).map Hd.blk := by unfold order; rw [if_pos hr]
    have HORD := Lib.hid hord
    rw [hr]
    clear hr hord hgd
    obtain ⟨l, hl⟩ : ∃ l, c.held = l := ⟨_, rfl⟩
    obtain ⟨n, hn⟩ : ∃ n, l.length = n := ⟨_, rfl⟩
    rw [hl] at HAP HORD HSW hlen d2
    rw [hn] at hlen d2
    have HN := Lib.hid hn
    clear hl hn
    go_wp2
    go_loopw [4] (fun v wr => ∃ (m k : Nat) (p : Option Addr), m ≤ n ∧ v = .slice p m k ∧ RowKit.Hid (Kit.Own wr W.heap.size TI p m k ((((ord l).take m).map Hd.blk).map inum)) ∧ RowKit.Hid (Below W.heap.size W wr)) (fun v _ => match v with | .slice _ m _ => n - m | _ => 0)
    case atStart => exact ⟨0, 0, none, by omega, rfl, Lib.hid (Kit.Own.start _ _ _), Lib.hid (Below.refl _ _)⟩
    case round =>
      obtain ⟨m, k, p, hmn, rfl, hown, hb⟩ := hrel
      obtain ⟨wo, rfl⟩ : ∃ wo : World, wo = wr := ⟨_, rfl⟩
      have g2 : wo.cell? ⟨w.heap.size, 2, none⟩ = some (.slice a n cap) := by rw [hb.out.cell (p := ⟨w.heap.size, 2, none⟩) hszW]; exact d2
      have hzo : w.heap.size < wo.heap.size := by have := hb.out.size; omega
      have HSO := Lib.hid (HSW.out.below hb.out rfl)
      by_cases hlt : m < n
      · go_wp2
        go_loopw [5, 6] (fun bst i wr => ∃ (b : Int) (j q : Nat), j ≤ n ∧ bst = .int .i64 b ∧ i = .int .i64 j ∧ RowKit.Hid (Best l m j b) ∧ wr = wo.drewN q) (fun _ i _ => n - (intOf i).toNat)
        case atStart => exact ⟨-1, 0, 0, by omega, rfl, rfl, Lib.hid (Best.start l m), rfl⟩
        case round =>
          obtain ⟨bst, j, q, hj, rfl, rfl, hbest, rfl⟩ := hrel
          by_cases hjn : j < n
          · have hjl : j < l.length := by rw [HN.out]; exact hjn
            obtain ⟨b, off, ha, hbl, e0, e1, e2⟩ := HSO.out.at_ j hjl
            subst ha
            obtain ⟨s, hs⟩ : ∃ s, l[j].st = s := ⟨_, rfl⟩
            rw [hs] at e1
            have HST := Lib.hid hs
            clear hs e0 e2
            go_wp2
            go_loopw [7, 8] (fun v i wr => ∃ (t q : Nat), t ≤ n ∧ v = .int .i64 (later (l.take t) s : Nat) ∧ i = .int .i64 t ∧ wr = wo.drewN q) (fun _ i _ => n - (intOf i).toNat)
            case atStart => exact ⟨0, q, by omega, rfl, rfl, rfl⟩
            case round =>
              obtain ⟨t, q2, ht, rfl, rfl, rfl⟩ := hrel
              have hlq := later_le (l.take t) s
              rw [List.length_take] at hlq
              by_cases htn : t < n
              · have htl : t < l.length := by rw [HN.out]; exact htn
                obtain ⟨b', off', ha, hbl', f0, f1, f2⟩ := HSO.out.at_ t htl
                injection ha with ha
                injection ha with hq1 hq2
                subst hq1 hq2
                have HL := Lib.hid (later_snoc (l.take t) l[t] s)
                have HTK := Lib.hid (take_snoc l t htl)
                obtain ⟨y, hy⟩ : ∃ y, l[t].st = y := ⟨_, rfl⟩
                rw [hy] at f1 HL
                obtain ⟨L, hL⟩ : ∃ L, later (l.take t) s = L := ⟨_, rfl⟩
                rw [hL] at hlq HL ⊢
                clear hy f0 f2 hL
                have hLn : L ≤ 64 := by omega
                clear hlq
                by_cases hys : s < y
                · have HL2 := Lib.hid (show later (l.take (t + 1)) s = L + 1 by rw [HTK.out, HL.out, if_pos hys])
                  go_wp2
                  go_quiet (fail)
                  go_wp2
                  go_roundw
                  case rel => exact ⟨t + 1, _, by omega, by rw [HL2.out]; go_num, by go_num, rfl⟩
                  case measure => simp [intOf]; omega
                · have HL2 := Lib.hid (show later (l.take (t + 1)) s = L by rw [HTK.out, HL.out, if_neg hys]; rfl)
                  go_wp2
                  go_quiet (fail)
                  go_wp2
                  go_roundw
                  case rel => exact ⟨t + 1, _, by omega, by rw [HL2.out], by go_num, rfl⟩
                  case measure => simp [intOf]; omega
              · have htt : t = n := by omega
                have HLL := Lib.hid (show later (l.take t) s = later l l[j].st by rw [HST.out, List.take_of_length_le (by rw [HN.out]; omega)])
                obtain ⟨L, hL⟩ : ∃ L, later (l.take t) s = L := ⟨_, rfl⟩
                rw [hL] at HLL ⊢
                clear hL hlq htt
                by_cases hLm : L = m
                · have HB := Lib.hid (Best.hit l m j hjl (by rw [← HLL.out, hLm]))
                  have q1 : ((L : Int) == (m : Int)) = true := by rw [hLm]; simp
                  clear hLm
                  go_wp2
                  go_roundw
                  case rel => exact ⟨j, j + 1, _, by omega, rfl, by go_num, HB, rfl⟩
                  case measure => simp [intOf]; omega
                · have HB := Lib.hid (hbest.out.miss hjl (by rw [← HLL.out]; exact hLm))
                  have q1 : ((L : Int) == (m : Int)) = false := by rw [Bool.eq_false_iff]; intro h; apply hLm; have := eq_of_beq h; omega
                  clear hLm
                  go_wp2
                  go_roundw
                  case rel => exact ⟨bst, j + 1, _, by omega, rfl, by go_num, HB, rfl⟩
                  case measure => simp [intOf]; omega
          · obtain rfl : n = j := by omega
            rw [← HN.out] at hbest
            have hml : m < l.length := by rw [HN.out]; exact hlt
            obtain ⟨i, hi, rfl, hoi⟩ := hbest.out.done HAP.out hml
            have hin : i < n := by rw [← HN.out]; exact hi
            obtain ⟨b, off, ha, hbl, e0, e1, e2⟩ := HSO.out.at_ i hi
            subst ha
            obtain ⟨x, hx⟩ : ∃ x, l[i].blk = x := ⟨_, rfl⟩
            rw [hx] at e0
            obtain ⟨V, hV⟩ : ∃ V, wo.drewN q = V := ⟨_, rfl⟩
            have f0 : V.cell? ⟨b, off + i * 3, none⟩ = some (.int .i64 x) := by rw [← hV]; exact e0
            have f2 : V.cell? ⟨w.heap.size, 2, none⟩ = some (.slice (some ⟨b, off, none⟩) n cap) := by rw [← hV]; exact g2
            have hVb : Below W.heap.size W V := by rw [← hV]; exact below_drewN hb.out q
            have hVz : wo.heap.size ≤ V.heap.size := by rw [← hV]; exact Nat.le_refl _
            have hownV : Kit.Own V W.heap.size TI p m k ((((ord l).take m).map Hd.blk).map inum) := by rw [← hV]; exact hown.out
            have hzb := hb.out.size
            obtain ⟨p3, c3, w3, hr3, ho3, hg3⟩ := Kit.Own.app (ty := 28) (w := V.alloc (.cells #[.int .i64 x] TI)) oneI (hownV.alloc _) (some ⟨V.heap.size, 0, none⟩) 1 1 [inum x] (Kit.new_one V (inum x) TI) rfl (fun h => by cases h) (by intro u hu; simp at hu; subst hu; rfl) (by unfold maxLen; omega) (by omega) (by rw [size_alloc']; omega)
            have hmo : m < (ord l).length := by rw [ord_length]; exact hml
            have htk : (((ord l).take (m + 1)).map Hd.blk).map inum = (((ord l).take m).map Hd.blk).map inum ++ [inum x] := by
              rw [take_snoc (ord l) m hmo, hoi, List.map_append, List.map_append, List.map_cons, List.map_nil, hx]
              rfl
            rw [← htk] at ho3
            have HO3 := Lib.hid ho3
            have HB3 := Lib.hid (hVb.trans (((Below.refl W.heap.size V).alloc (by omega) _).trans ((Below.refl _ _).grown hg3 (by simp; omega) (fun q hq => hownV.block q hq))))
            rw [hV]
            clear hV hVb hownV ho3 hg3 htk hoi hx e0 e1 e2 g2 hbest hVz hzb
            go_wp2_with (at_builtin; refine Kit.app_eq rfl (.tmp 53) (.tmp 60) 28 rfl rfl rfl hr3 ?_)
            go_roundw
            case rel => exact ⟨m + 1, c3, p3, by omega, rfl, HO3, HB3⟩
            case measure => simp; omega
      · have hmn2 : m = n := by omega
        have hfin : (((ord l).take m).map Hd.blk).map inum = (order c).map inum := by
          rw [HORD.out, List.take_of_length_le (by rw [ord_length, HN.out]; omega)]
        rw [hfin] at hown
        clear hfin hmn2
        go_wp2
        go_ret
        exact ⟨_, _, _, rfl, hown.out.base (by omega), HBW.out.trans (hb.out.mono (by omega))⟩
  · have hrf : right c = false := by simpa using hr
    have hord : order c = [] := by unfold order; rw [hrf]; simp
    have HORD := Lib.hid hord
    rw [hrf]
    clear hr hrf hord
    go_wp2
    go_ret
    exact ⟨_, _, _, rfl, by rw [HORD.out]; exact Kit.Own.start _ _ _, HBW.out⟩
end Cache
end Go.Proofs.Ytpkhafijmbgcnaa
