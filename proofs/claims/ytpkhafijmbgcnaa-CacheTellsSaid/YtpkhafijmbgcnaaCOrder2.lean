/- Order (chapter 21). -/
import Derived.Test.YtpkhafijmbgcnaaCOrder
import Derived.Deep.RegionWith
namespace Go.Proofs.Ytpkhafijmbgcnaa
namespace Cache
open Go.RowKit Go.Shelf
set_option linter.unusedVariables false

abbrev TI : TypeId := 3
def inum (x : Int) : Value := .int .i64 x
theorem oneI : Kit.One Try.prog 28 TI 8 := ⟨Try.underlying28, .int .i64 0, by kernel_rfl, rfl⟩
theorem inum_one (l : List Int) : ∀ u ∈ l.map inum, u.oneCell' = true := by
  intro u hu
  obtain ⟨x, _, rfl⟩ := List.mem_map.1 hu
  rfl
/-- By their stamps, the last first. -/
theorem ord_of {l l' : List Hd} {clock : Int} (hg : Good clock l) (hc : clock ≤ MaxC) (hp : l'.Perm l) (hs : l'.Pairwise fun x y => wrap64 (-x.st) ≤ wrap64 (-y.st)) : l' = ord l := by
  refine ord_one hg.2.2 hp ?_
  have ha : l'.Pairwise fun x y => x.st ≠ y.st := (List.Perm.pairwise_iff (fun h => Ne.symm h) hp).2 hg.2.2
  have hw : ∀ x ∈ l', wrap64 (-x.st) = -x.st := fun x hx => by
    have := hg.1 x (hp.subset hx)
    unfold MaxC at hc
    unfold wrap64
    omega
  refine List.pairwise_iff_getElem.2 fun i j hi hj hij => ?_
  have h1 := List.pairwise_iff_getElem.1 hs i j hi hj hij
  have h2 := List.pairwise_iff_getElem.1 ha i j hi hj hij
  rw [hw _ (List.getElem_mem hi), hw _ (List.getElem_mem hj)] at h1
  omega

set_option maxRecDepth 100000 in
set_option maxHeartbeats 2000000 in
theorem order_any (c : Sh) (a : Option Addr) (cap : Nat) (w : World) (hm : c.held.length ≤ 1000000) (hs : HSrc w a c.held) :
    Calls Try.prog 19 #[sval c a cap] w fun e w' => ∃ a' n k, e = .returned (.slice a' n k) ∧ Kit.Own w' w.heap.size TI a' n k ((order c).map inum) ∧ Below w.heap.size w w' := by
  obtain ⟨W0, hW0⟩ : ∃ W0, w.alloc (.cells #[.int .i64 c.room, .int .i64 c.clock, .slice a c.held.length cap] TS) = W0 := ⟨_, rfl⟩
  have hb0 : Below w.heap.size w W0 := by rw [← hW0]; exact (Below.refl _ _).alloc (Nat.le_refl _) _
  have hsz : W0.heap.size = w.heap.size + 1 := by rw [← hW0, size_alloc']
  have c0 : W0.cell? ⟨w.heap.size, 0, none⟩ = some (.int .i64 c.room) := by rw [← hW0]; simp
  have c1 : W0.cell? ⟨w.heap.size, 1, none⟩ = some (.int .i64 c.clock) := by rw [← hW0]; simp
  have c2 : W0.cell? ⟨w.heap.size, 2, none⟩ = some (.slice a c.held.length cap) := by rw [← hW0]; simp
  have HR := Lib.hid (right_any c a cap W0 (by unfold maxLen; omega) (hs.below hb0 rfl))
  have HS := Lib.hid (hs.below hb0 rfl)
  have HW := Lib.hid hW0
  have HB0 := Lib.hid hb0
  clear hs hW0 hb0
  unfold sval at HR ⊢
  go_enter Try.func19, Try.ntmps19
  go_wp2_with fail
  rw [show w.alloc (.cells #[.int .i64 c.room, .int .i64 c.clock, .slice a c.held.length cap] TS) = W0 from HW.out]
  refine HR.out.mono ?_
  rintro e W ⟨rfl, hbW⟩
  have hszW : w.heap.size < W.heap.size := by have := hbW.size; omega
  have d2 : W.cell? ⟨w.heap.size, 2, none⟩ = some (.slice a c.held.length cap) := by rw [hbW.cell (p := ⟨w.heap.size, 2, none⟩) (by rw [hsz]; show w.heap.size < _; omega)]; exact c2
  have HSW := Lib.hid (HS.out.below hbW rfl)
  have HBW := Lib.hid (HB0.out.trans (hbW.mono (by omega)))
  clear hbW c0 c1 c2
  by_cases hr : right c = true
  · have HRT := Lib.hid hr
    have hlen : c.held.length ≤ 64 := by have := (right_iff c).1 hr; unfold Right at this; omega
    rw [hr]
    clear hr
    have h25 : ∀ w', Below W.heap.size W w' → Calls Try.prog 25 #[] w' fun e w1 => e = .returned (.agg #[.func (.func 31) #[] #[]]) ∧ w1.cell? ⟨w.heap.size, 2, none⟩ = some (.slice a c.held.length cap) ∧ RowKit.Hid (Below W.heap.size W w1) := fun w' hb => (byUse_any w').mono fun e w1 ⟨he, h1⟩ =>
      ⟨he, by rw [h1.cell (p := ⟨w.heap.size, 2, none⟩) (by have := hb.size; show w.heap.size < _; omega), hb.cell (p := ⟨w.heap.size, 2, none⟩) hszW]; exact d2, Lib.hid (hb.trans (h1.mono hb.size))⟩
    have h26 : ∀ w', Below W.heap.size W w' → Calls Try.prog 26 #[.agg #[.func (.func 31) #[] #[]], .slice a c.held.length cap] w' fun e w2 => ∃ a' n k l', e = .returned (.slice a' n k) ∧ RowKit.Hid (l'.Perm c.held ∧ (l'.Pairwise fun x y => wrap64 (-x.st) ≤ wrap64 (-y.st)) ∧ OwnH w2 W.heap.size a' n k l') ∧ RowKit.Hid (Below W.heap.size W w2) := fun w' hb =>
      (sorterSort_any 31 _ keyUse a c.held.length cap c.held rfl (by omega) w' (HSW.out.below hb rfl)).mono fun e w2 ⟨a', n, k, l', he, p1, p2, p3, p4⟩ => ⟨a', n, k, l', he, Lib.hid ⟨p1, p2, p3.base hb.size⟩, Lib.hid (hb.trans (p4.mono hb.size))⟩
    have H25 := Lib.hid h25
    have H26 := Lib.hid h26
    have HDR := Lib.hid ((Below.refl W.heap.size W).drew)
    clear h25 h26
    go_wp2_with fail
    go_region_with (first
      | (go_at_call 25; refine (H25.out _ HDR.out).mono ?_; rintro e w1 ⟨rfl, d3, hb1⟩)
      | (go_at_call 26; refine (H26.out _ hb1.out).mono ?_; rintro e w2 ⟨a', n, k, l', rfl, hl', hb2⟩))
    all_goals
      have hlen' : l'.length = n := hl'.out.2.2.len
      have hord : order c = l'.map Hd.blk := by
        have hg := (right_iff c).1 HRT.out
        unfold order
        rw [if_pos HRT.out, ← ord_of hg.2.2.2.2.2 hg.2.2.2.1 hl'.out.1 hl'.out.2.1]
      have hn64 : n ≤ 64 := by rw [← hlen', hl'.out.1.length_eq]; exact hlen
      have HORD := Lib.hid hord
      have HLEN := Lib.hid hlen'
      clear hlen' hord
      obtain ⟨N2, hN2⟩ : ∃ N2, w2.heap.size = N2 := ⟨_, rfl⟩
      have hNW : W.heap.size ≤ w2.heap.size := hb2.out.size
      have HN2 := Lib.hid hN2
      clear hN2
      simp only [List.getElem_toArray, List.getElem_cons_succ, List.getElem_cons_zero, Act.put, List.setIfInBounds_toArray, List.set_cons_succ, List.set_cons_zero]
      go_wp2
      go_loopw [2, 13] (fun v i wr => ∃ (j : Nat) (p : Option Addr) (q : Nat), j ≤ n ∧ i = .int .i64 j ∧ v = .slice p j q ∧ RowKit.Hid (Kit.Own wr N2 TI p j q ((l'.take j).map fun x => inum x.blk)) ∧ RowKit.Hid (Below N2 w2 wr)) (fun _ i _ => n - (intOf i).toNat)
      case atStart => exact ⟨0, none, 0, by omega, rfl, rfl, Lib.hid (Kit.Own.start _ _ _), Lib.hid (Below.refl _ _)⟩
      case round =>
        obtain ⟨j, p, q, hj, rfl, rfl, hown, hb⟩ := hrel
        by_cases hlt : j < n
        · have hjl : j < l'.length := by rw [HLEN.out]; exact hlt
          obtain ⟨x, hx⟩ : ∃ x, l'[j] = x := ⟨_, rfl⟩
          obtain ⟨b, off, ha, hbl, e0, e1, e2⟩ := (hl'.out.2.2.src.below hb.out HN2.out.symm).at_ j hjl
          rw [hx] at e0 e1 e2
          subst ha
          have hwz : N2 ≤ wr.heap.size := by have h := hb.out.size; rw [HN2.out] at h; exact h
          obtain ⟨p3, c3, w3, hr3, ho3, hg3⟩ := Kit.Own.app (ty := 28) (w := (wr.alloc (hobj x)).alloc (.cells #[.int .i64 x.blk] TI)) oneI ((hown.out.alloc _).alloc _) (some ⟨wr.heap.size + 1, 0, none⟩) 1 1 [inum x.blk] (by have h := Kit.new_one (wr.alloc (hobj x)) (inum x.blk) TI; rw [size_alloc'] at h; exact h) rfl (fun h => by cases h) (by intro u hu; simp at hu; subst hu; rfl) (by unfold maxLen; omega) (by omega) (by rw [size_alloc', size_alloc']; omega)
          have hb3 : Below N2 w2 w3 := hb.out.trans ((((Below.refl _ wr).alloc hwz _).alloc (by rw [size_alloc']; omega) _).trans ((Below.refl _ _).grown hg3 (by rw [size_alloc', size_alloc']; omega) (fun k hk => hown.out.block k hk)))
          have HO3 := Lib.hid ho3
          have HB3 := Lib.hid hb3
          have HX := Lib.hid hx
          clear ho3 hb3 hg3 hx
          go_wp2_with (at_builtin; refine Kit.app_eq rfl (.tmp 17) (.tmp 20) 28 rfl rfl rfl hr3 ?_)
          go_roundw
          case rel =>
            refine ⟨j + 1, p3, c3, by omega, by go_num, rfl, ?_, HB3⟩
            rw [take_snoc l' j hjl, HX.out, List.map_append]
            exact HO3
          case measure => simp [intOf]; omega
        · have hjn : j = n := by omega
          subst hjn
          go_wp2
          go_ret
          refine ⟨_, _, _, rfl, ?_, ?_⟩
          · have h := hown.out
            rw [List.take_of_length_le (by rw [HLEN.out]; omega)] at h
            rw [HORD.out, List.map_map]
            exact h.base (by rw [← HN2.out]; omega)
          · exact HBW.out.trans ((hb2.out.mono (by omega)).trans (hb.out.mono (by rw [← HN2.out]; omega)))
  · have hrf : right c = false := by simpa using hr
    have hord : order c = [] := by unfold order; rw [hrf]; simp
    have HORD := Lib.hid hord
    rw [hrf]
    clear hr hrf hord
    go_wp2
    go_ret
    exact ⟨_, _, _, rfl, by rw [HORD.out]; exact Kit.Own.start _ _ _, HBW.out⟩
end Cache
end Go.Proofs.Ytpkhafijmbgcnaa
