/- The document's Keep (chapter 21). -/
import Derived.Test.YtpkhafijmbgcnaaDTake
import Derived.Test.YtpkhafijmbgcnaaCKeep
namespace Go.Proofs.Ytpkhafijmbgcnaa
namespace Cache
open Go.RowKit Go.Shelf
set_option linter.unusedVariables false

theorem goes_full {c : Sh} {blk : Int} (hr : right c = true) (hf : find blk c.held = none) (hfull : (c.held.length : Int) = c.room) : ∃ m : Nat, c.held.length = m + 1 ∧ (order c)[m]? = some (goes c blk) := by
  have h := (right_iff c).1 hr
  unfold Right at h
  have hord : order c = (ord c.held).map Hd.blk := by unfold order; rw [if_pos hr]
  obtain ⟨m, hm⟩ : ∃ m, c.held.length = m + 1 := ⟨c.held.length - 1, by omega⟩
  have hol : (order c).length = m + 1 := by rw [hord, List.length_map, ord_length, hm]
  have hne : order c ≠ [] := by intro e; rw [e] at hol; simp at hol
  have e1 : goes c blk = (order c).getLast hne := by
    unfold goes
    rw [if_pos ⟨by rw [hf]; rfl, hfull⟩, List.getLastD_eq_getLast?, List.getLast?_eq_some_getLast hne]
    rfl
  refine ⟨m, hm, ?_⟩
  rw [e1, List.getLast_eq_getElem, List.getElem?_eq_getElem (by omega)]
  simp [hol]
theorem order_length {c : Sh} (hr : right c = true) : (order c).length = c.held.length := by unfold order; rw [if_pos hr, List.length_map, ord_length]
set_option maxRecDepth 100000 in
set_option maxHeartbeats 8000000 in
theorem rkeep_any (c : Sh) (a : Option Addr) (cap : Nat) (blk : Int) (txt : ByteArray) (w : World) (hm : c.held.length ≤ 1000000) (hs : ShW w c a cap) (hb0 : -9223372036854775808 ≤ blk) (hb1 : blk ≤ 9223372036854775807) :
    Calls Try.prog 24 #[sval c a cap, .int .i64 blk, .string txt] w fun e w' => ∃ a' k, e = .returned (.tuple #[.int .i64 (keep c blk txt).1, sval (keep c blk txt).2.1 a' k, .int .i64 (keep c blk txt).2.2]) ∧ ShW w' (keep c blk txt).2.1 a' k ∧ Below w.heap.size w w' := by
  obtain ⟨W0, hW0⟩ : ∃ W0, (w.alloc (.cells #[.int .i64 c.room, .int .i64 c.clock, .slice a c.held.length cap] TS)).alloc (.cells #[.int .i64 0, .int .i64 0, .slice none 0 0] TS) = W0 := ⟨_, rfl⟩
  have hs0 : W0.heap.size = w.heap.size + 2 := by rw [← hW0, size_alloc', size_alloc']
  have hbW0 : Below w.heap.size w W0 := by rw [← hW0]; exact ((Below.refl _ w).alloc (Nat.le_refl _) _).alloc (by rw [size_alloc']; omega) _
  have hg0 : W0.heap[w.heap.size]? = some (.cells #[.int .i64 c.room, .int .i64 c.clock, .slice a c.held.length cap] TS (0, 0)) := by
    rw [← hW0, Below.heap_alloc _ _ _ (by rw [size_alloc']; omega)]; exact World.alloc_heap_new _ _
  have hg1 : W0.heap[w.heap.size + 1]? = some (.cells #[.int .i64 0, .int .i64 0, .slice none 0 0] TS (0, 0)) := by
    rw [← hW0]
    have h := World.alloc_heap_new (w.alloc (.cells #[.int .i64 c.room, .int .i64 c.clock, .slice a c.held.length cap] TS)) (.cells #[.int .i64 0, .int .i64 0, .slice none 0 0] TS)
    rwa [size_alloc'] at h
  obtain ⟨x0, x1, x2⟩ := Bx.of hg0
  have HR := Lib.hid (rright_any c a cap W0 (by unfold maxLen; omega) (hs.src.below hbW0 rfl))
  have HG0 := Lib.hid hg0
  have HG1 := Lib.hid hg1
  have HB0 := Lib.hid hbW0
  have HS := Lib.hid hs
  have HS0 := Lib.hid hs0
  clear hg0 hg1 hbW0 hs hs0
  unfold sval at HR
  rw [show sval c a cap = .agg #[.int .i64 c.room, .int .i64 c.clock, .slice a c.held.length cap] from rfl]
  go_enter Try.func24, Try.ntmps24
  go_wp2_with fail
  refine HR.out.mono ?_
  rintro e W ⟨rfl, hbW⟩
  have hk0 : W.heap[w.heap.size]? = some (.cells #[.int .i64 c.room, .int .i64 c.clock, .slice a c.held.length cap] TS (0, 0)) := (hbW.block _ (by rw [HS0.out]; omega)).trans HG0.out
  have hk1 : W.heap[w.heap.size + 1]? = some (.cells #[.int .i64 0, .int .i64 0, .slice none 0 0] TS (0, 0)) := (hbW.block _ (by rw [HS0.out]; omega)).trans HG1.out
  have hsW : w.heap.size + 2 ≤ W.heap.size := by have := hbW.size; rw [HS0.out] at this; exact this
  obtain ⟨y0, y1, y2⟩ := Bx.of hk0
  obtain ⟨r0, r1, r2, f0, f1, f2⟩ := Rz.of hk1
  have HK0 := Lib.hid hk0
  have HK1 := Lib.hid hk1
  have HBW := Lib.hid (HB0.out.trans (hbW.mono (by rw [HS0.out]; omega)))
  have HSW := Lib.hid ((HS.out.below HB0.out rfl).below hbW rfl)
  clear hbW hk0 hk1 x0 x1 x2 hW0
  by_cases hr : right c = true ∧ 0 ≤ blk
  · obtain ⟨hr, hblk⟩ := hr
    have HRT := Lib.hid hr
    have hg := (right_iff c).1 hr
    unfold Right at hg
    have hlen : c.held.length ≤ 64 := by omega
    have HGD := Lib.hid hg
    rw [hr]
    clear hr hg
    by_cases hcl : c.clock = MaxC
    · have E := Lib.hid (show keep c blk txt = (0, zero, 4) by unfold keep; rw [if_pos ⟨HRT.out, hblk⟩, if_pos hcl])
      unfold MaxC at hcl
      rw [hcl] at y1
      have HCL := Lib.hid hcl
      clear hcl
      go_wp2
      obtain ⟨z0, z1, z2⟩ := set3_at (x := .int .i64 0) (y := .int .i64 0) (z := .slice none 0 0) r0 r1 r2
      refine bodyPost_ret (v := .tuple #[.int .i64 0, .agg #[.int .i64 0, .int .i64 0, .slice none 0 0], .int .i64 4]) ?_ rfl ?_
      · exact results_tct (t := 6) (p := 7) (u := 8) (ty := TS) rfl _ _ _ ⟨w.heap.size + 1, 0, none⟩ _ (by rfl) (load_sh _ _ _ _ _ z0 z1 z2)
      · exact ⟨none, 0, by rw [E.out]; rfl, by rw [E.out]; exact ShW.zero _, Below.set3 HBW.out (by omega) _ _ _⟩
    · have E := Lib.hid (show keep c blk txt = (goes c blk, after c (drop (goes c blk) c.held) blk txt, 0) by unfold keep; rw [if_pos ⟨HRT.out, hblk⟩, if_neg hcl])
      have hclb : 0 ≤ c.clock ∧ c.clock < 1099511627776 := by have h1 := HGD.out.2.2.1; have h2 := HGD.out.2.2.2.1; unfold MaxC at h2 hcl; omega
      obtain ⟨hc0, hc1⟩ := hclb
      have hcq : (c.clock == 1099511627776) = false := by simp; omega
      have hwr : IntKind.i64.wrap (c.clock + 1) = c.clock + 1 := IntWalk.i64_in _ ⟨by omega, by omega⟩
      have HWR := Lib.hid hwr
      have HOR := Lib.hid (rorder_any c a cap W (by omega) HSW.out.src)
      unfold sval at HOR
      clear hcl hwr
      go_wp2_with fail
      refine HOR.out.mono ?_
      rintro e W2 ⟨a4, n4, k4, rfl, ho4, hb4⟩
      have hn4 : n4 = c.held.length := by rw [← ho4.len, List.length_map, order_length HRT.out]
      subst hn4
      have HO4 := Lib.hid ho4
      have hk0 : W2.heap[w.heap.size]? = W.heap[w.heap.size]? := hb4.block _ (by omega)
      have hk1 : W2.heap[w.heap.size + 1]? = W.heap[w.heap.size + 1]? := hb4.block _ (by omega)
      rw [HK0.out] at hk0
      rw [HK1.out] at hk1
      have HG2 := Lib.hid hk0
      have HG3 := Lib.hid hk1
      obtain ⟨y0, y1, y2⟩ := Bx.of hk0
      have hz2 := hb4.size
      have HB2 := Lib.hid (HBW.out.trans (hb4.mono (by omega)))
      have HS2 := Lib.hid (HSW.out.below hb4 rfl)
      have HF := Lib.hid (rfind_any c a cap blk W2 (by omega) HS2.out.src)
      unfold sval at HF
      clear hk0 hk1 ho4 hb4
      go_wp2_with fail
      refine HF.out.mono ?_
      rintro e W3 ⟨rfl, hb3⟩
      have hk0 : W3.heap[w.heap.size]? = W2.heap[w.heap.size]? := hb3.block _ (by omega)
      have hk1 : W3.heap[w.heap.size + 1]? = W2.heap[w.heap.size + 1]? := hb3.block _ (by omega)
      rw [HG2.out] at hk0
      rw [HG3.out] at hk1
      have HX3 := Lib.hid (Bx.of hk0)
      have HR3 := Lib.hid (Rz.of hk1)
      obtain ⟨y0, y1, y2⟩ := Bx.of hk0
      have hz3 := hb3.size
      have HB3 := Lib.hid (HB2.out.trans (hb3.mono (by omega)))
      have HS3 := Lib.hid (HS2.out.below hb3 rfl)
      have HO3 := Lib.hid (HO4.out.src.below hb3)
      clear hk0 hk1 hb3
      have hwr := HWR.out
      rcases hf : find blk c.held with _ | h
      · rw [place_of_none hf]
        by_cases hfull : (c.held.length : Int) = c.room
        · obtain ⟨m, hm1, hGm⟩ := goes_full HRT.out hf hfull
          obtain ⟨G, hG⟩ : ∃ G, goes c blk = G := ⟨_, rfl⟩
          rw [hG] at hGm E
          obtain ⟨g4, o4, ha4, hcG⟩ := HO3.out m (inum G) (by rw [List.getElem?_map, hGm]; rfl)
          subst ha4
          have hq : ((c.held.length : Int) == c.room) = true := by simpa using hfull
          have hidx : (c.held.length : Int) - 1 = (m : Int) := by omega
          have hml : (m : Int) < (c.held.length : Int) := by omega
          have hmb : m ≤ 64 := by omega
          unfold inum at hcG
          have HM1 := Lib.hid hm1
          clear hf hfull hGm hG hm1
          go_wp2_with fail
          obtain ⟨V, hV⟩ : ∃ V, W3.alloc (.cells #[.int .i64 blk, .int .i64 (c.clock + 1), .string txt] TH) = V := ⟨_, rfl⟩
          have hzV : V.heap.size = W3.heap.size + 1 := by rw [← hV]; exact size_alloc' _ _
          have hVb : Below W3.heap.size W3 V := by rw [← hV]; exact (Below.refl _ _).alloc (Nat.le_refl _) _
          have hbx : HBox V W3.heap.size ⟨blk, c.clock + 1, txt⟩ := by rw [← hV]; exact HBox.new W3 ⟨blk, c.clock + 1, txt⟩
          obtain ⟨v0, v1, v2⟩ := hbx.at_
          have hk0 : V.heap[w.heap.size]? = W3.heap[w.heap.size]? := hVb.block _ (by omega)
          have hk1 : V.heap[w.heap.size + 1]? = W3.heap[w.heap.size + 1]? := hVb.block _ (by omega)
          have hX3 : Bx V w.heap.size c.room c.clock a c.held.length cap := ⟨(World.cell?_of_block hk0).trans HX3.out.x0, (World.cell?_of_block hk0).trans HX3.out.x1, (World.cell?_of_block hk0).trans HX3.out.x2⟩
          have hR3 : Rz V (w.heap.size + 1) := HR3.out.kept hk1
          have hSV : HSrc V a c.held := HS3.out.src.below hVb rfl
          have hBV : Below w.heap.size w V := HB3.out.trans (hVb.mono (by omega))
          have h30 : Calls Try.prog 30 #[.slice a c.held.length cap, .int .i64 G, .agg #[.int .i64 blk, .int .i64 (c.clock + 1), .string txt]] V.drew fun e w1 => ∃ a' n' k, e = .returned (.slice a' n' k) ∧
              (w1.cell? ⟨W3.heap.size, 0, none⟩ = some (.int .i64 blk) ∧ w1.cell? ⟨W3.heap.size, 1, none⟩ = some (.int .i64 (c.clock + 1)) ∧ w1.cell? ⟨W3.heap.size, 2, none⟩ = some (.string txt) ∧ w1.cell? ⟨w.heap.size, 0, none⟩ = some (.int .i64 c.room) ∧ w1.cell? ⟨w.heap.size, 1, none⟩ = some (.int .i64 c.clock) ∧ w1.cell? ⟨w.heap.size, 2, none⟩ = some (.slice a c.held.length cap)) ∧
              (w1.cell? ⟨w.heap.size + 1, 0, none⟩ = some (.int .i64 0) ∧ w1.cell? ⟨w.heap.size + 1, 1, none⟩ = some (.int .i64 0) ∧ w1.cell? ⟨w.heap.size + 1, 2, none⟩ = some (.slice none 0 0) ∧ w1.frozen? ⟨w.heap.size + 1, 0, none⟩ = false ∧ w1.frozen? ⟨w.heap.size + 1, 1, none⟩ = false ∧ w1.frozen? ⟨w.heap.size + 1, 2, none⟩ = false) ∧
              RowKit.Hid (OwnH w1 V.heap.size a' n' k (put ⟨blk, c.clock + 1, txt⟩ (drop G c.held))) ∧ RowKit.Hid (Below w.heap.size w w1) := by
            refine (rwith_any a cap c.held.length c.held G ⟨blk, c.clock + 1, txt⟩ V.drew rfl (by omega) HGD.out.2.2.2.2.2.2.1 (hSV.below ((Below.refl V.heap.size V).drew) rfl)).mono ?_
            rintro e w1 ⟨a', n', k, he, ho, hb⟩
            have hb' : Below V.heap.size V w1 := ((Below.refl V.heap.size V).drew).trans hb
            have q0 : ∀ i, w1.cell? ⟨w.heap.size, i, none⟩ = V.cell? ⟨w.heap.size, i, none⟩ := fun i => World.cell?_of_block (hb'.block w.heap.size (by omega))
            have q1 : Rz w1 (w.heap.size + 1) := hR3.kept (hb'.block _ (by omega))
            have q2 : ∀ i, w1.cell? ⟨W3.heap.size, i, none⟩ = V.cell? ⟨W3.heap.size, i, none⟩ := fun i => World.cell?_of_block (hb'.block W3.heap.size (by omega))
            exact ⟨a', n', k, he, ⟨(q2 0).trans v0, (q2 1).trans v1, (q2 2).trans v2, (q0 0).trans hX3.x0, (q0 1).trans hX3.x1, (q0 2).trans hX3.x2⟩, ⟨q1.r0, q1.r1, q1.r2, q1.f0, q1.f1, q1.f2⟩, Lib.hid ho, Lib.hid (hBV.trans (hb'.mono (by omega)))⟩
          obtain ⟨y0, y1, y2⟩ := hX3
          obtain ⟨r0, r1, r2, f0, f1, f2⟩ := hR3
          have H30 := Lib.hid h30
          have HZV := Lib.hid hzV
          have hne : W3.heap.size ≠ w.heap.size + 1 := by omega
          have hne2 : w.heap.size ≠ w.heap.size + 1 := by omega
          rw [hV]
          clear h30 hV hzV hVb hbx hk0 hk1 hSV hBV
          go_region_held3 (fun w' => w'.cell? ⟨W3.heap.size, 0, none⟩ = some (.int .i64 blk) ∧ w'.cell? ⟨W3.heap.size, 1, none⟩ = some (.int .i64 (c.clock + 1)) ∧ w'.cell? ⟨W3.heap.size, 2, none⟩ = some (.string txt) ∧ w'.cell? ⟨w.heap.size, 0, none⟩ = some (.int .i64 c.room) ∧ w'.cell? ⟨w.heap.size, 1, none⟩ = some (.int .i64 c.clock) ∧ w'.cell? ⟨w.heap.size, 2, none⟩ = some (.slice a c.held.length cap))
            (first | assumption | (refine ⟨?_, ?_, ?_, ?_, ?_, ?_⟩ <;> assumption) | (exact ⟨(set3_far hne).trans (by assumption), (set3_far hne).trans (by assumption), (set3_far hne).trans (by assumption), (set3_far hne2).trans (by assumption), (set3_far hne2).trans (by assumption), (set3_far hne2).trans (by assumption)⟩) | go_keep)
            (first | (go_at_call 30; refine H30.out.mono ?_; rintro e w28 ⟨a', n, k, rfl, ⟨t0, t1, t2, t3, t4, t5⟩, ⟨s0, s1, s2, s3, s4, s5⟩, h28, hb28⟩))
          have hlen2 := h28.out.len
          have lR3 : w.heap.size + 1 < V.heap.size := by rw [HZV.out]; omega
          have HL2 := Lib.hid hlen2
          clear hlen2
          go_wp2
          obtain ⟨z0, z1, z2⟩ := set3_at (x := .int .i64 c.room) (y := .int .i64 (c.clock + 1)) (z := .slice a' n k) s0 s1 s2
          refine bodyPost_ret (v := .tuple #[.int .i64 G, .agg #[.int .i64 c.room, .int .i64 (c.clock + 1), .slice a' n k], .int .i64 0]) ?_ rfl ?_
          · exact results_tct (t := 6) (p := 7) (u := 8) (ty := TS) rfl _ _ _ ⟨w.heap.size + 1, 0, none⟩ _ (by rfl) (load_sh _ _ _ _ _ z0 z1 z2)
          · refine ⟨a', k, ?_, ?_, Below.set3 hb28.out (by omega) _ _ _⟩
            · rw [E.out]
              unfold sval after
              simp only
              rw [HL2.out]
            · rw [E.out]
              exact ⟨(((h28.out.set lR3 _).set lR3 _).set lR3 _).src, fun ha => ⟨HL2.out.trans (h28.out.nil ha).1, (h28.out.nil ha).2⟩, Wf.put (fun x hx => HSW.out.wf x (mem_drop.1 hx).1) (HGD.out.2.2.2.2.2.2.1.drop _) _ hb0 hb1⟩
        · have hgo : goes c blk = -1 := by unfold goes; rw [if_neg (fun h => hfull h.2)]
          rw [hgo] at E
          have hq : ((c.held.length : Int) == c.room) = false := by simpa using hfull
          clear hf hfull hgo
          go_wp2_with fail
          obtain ⟨V, hV⟩ : ∃ V, W3.alloc (.cells #[.int .i64 blk, .int .i64 (c.clock + 1), .string txt] TH) = V := ⟨_, rfl⟩
          have hzV : V.heap.size = W3.heap.size + 1 := by rw [← hV]; exact size_alloc' _ _
          have hVb : Below W3.heap.size W3 V := by rw [← hV]; exact (Below.refl _ _).alloc (Nat.le_refl _) _
          have hbx : HBox V W3.heap.size ⟨blk, c.clock + 1, txt⟩ := by rw [← hV]; exact HBox.new W3 ⟨blk, c.clock + 1, txt⟩
          obtain ⟨v0, v1, v2⟩ := hbx.at_
          have hk0 : V.heap[w.heap.size]? = W3.heap[w.heap.size]? := hVb.block _ (by omega)
          have hk1 : V.heap[w.heap.size + 1]? = W3.heap[w.heap.size + 1]? := hVb.block _ (by omega)
          have hX3 : Bx V w.heap.size c.room c.clock a c.held.length cap := ⟨(World.cell?_of_block hk0).trans HX3.out.x0, (World.cell?_of_block hk0).trans HX3.out.x1, (World.cell?_of_block hk0).trans HX3.out.x2⟩
          have hR3 : Rz V (w.heap.size + 1) := HR3.out.kept hk1
          have hSV : HSrc V a c.held := HS3.out.src.below hVb rfl
          have hBV : Below w.heap.size w V := HB3.out.trans (hVb.mono (by omega))
          have h30 : Calls Try.prog 30 #[.slice a c.held.length cap, .int .i64 (-1), .agg #[.int .i64 blk, .int .i64 (c.clock + 1), .string txt]] V.drew fun e w1 => ∃ a' n' k, e = .returned (.slice a' n' k) ∧
              (w1.cell? ⟨W3.heap.size, 0, none⟩ = some (.int .i64 blk) ∧ w1.cell? ⟨W3.heap.size, 1, none⟩ = some (.int .i64 (c.clock + 1)) ∧ w1.cell? ⟨W3.heap.size, 2, none⟩ = some (.string txt) ∧ w1.cell? ⟨w.heap.size, 0, none⟩ = some (.int .i64 c.room) ∧ w1.cell? ⟨w.heap.size, 1, none⟩ = some (.int .i64 c.clock) ∧ w1.cell? ⟨w.heap.size, 2, none⟩ = some (.slice a c.held.length cap)) ∧
              (w1.cell? ⟨w.heap.size + 1, 0, none⟩ = some (.int .i64 0) ∧ w1.cell? ⟨w.heap.size + 1, 1, none⟩ = some (.int .i64 0) ∧ w1.cell? ⟨w.heap.size + 1, 2, none⟩ = some (.slice none 0 0) ∧ w1.frozen? ⟨w.heap.size + 1, 0, none⟩ = false ∧ w1.frozen? ⟨w.heap.size + 1, 1, none⟩ = false ∧ w1.frozen? ⟨w.heap.size + 1, 2, none⟩ = false) ∧
              RowKit.Hid (OwnH w1 V.heap.size a' n' k (put ⟨blk, c.clock + 1, txt⟩ (drop (-1) c.held))) ∧ RowKit.Hid (Below w.heap.size w w1) := by
            refine (rwith_any a cap c.held.length c.held (-1) ⟨blk, c.clock + 1, txt⟩ V.drew rfl (by omega) HGD.out.2.2.2.2.2.2.1 (hSV.below ((Below.refl V.heap.size V).drew) rfl)).mono ?_
            rintro e w1 ⟨a', n', k, he, ho, hb⟩
            have hb' : Below V.heap.size V w1 := ((Below.refl V.heap.size V).drew).trans hb
            have q0 : ∀ i, w1.cell? ⟨w.heap.size, i, none⟩ = V.cell? ⟨w.heap.size, i, none⟩ := fun i => World.cell?_of_block (hb'.block w.heap.size (by omega))
            have q1 : Rz w1 (w.heap.size + 1) := hR3.kept (hb'.block _ (by omega))
            have q2 : ∀ i, w1.cell? ⟨W3.heap.size, i, none⟩ = V.cell? ⟨W3.heap.size, i, none⟩ := fun i => World.cell?_of_block (hb'.block W3.heap.size (by omega))
            exact ⟨a', n', k, he, ⟨(q2 0).trans v0, (q2 1).trans v1, (q2 2).trans v2, (q0 0).trans hX3.x0, (q0 1).trans hX3.x1, (q0 2).trans hX3.x2⟩, ⟨q1.r0, q1.r1, q1.r2, q1.f0, q1.f1, q1.f2⟩, Lib.hid ho, Lib.hid (hBV.trans (hb'.mono (by omega)))⟩
          obtain ⟨y0, y1, y2⟩ := hX3
          obtain ⟨r0, r1, r2, f0, f1, f2⟩ := hR3
          have H30 := Lib.hid h30
          have HZV := Lib.hid hzV
          have hne : W3.heap.size ≠ w.heap.size + 1 := by omega
          have hne2 : w.heap.size ≠ w.heap.size + 1 := by omega
          rw [hV]
          clear h30 hV hzV hVb hbx hk0 hk1 hSV hBV
          go_region_held3 (fun w' => w'.cell? ⟨W3.heap.size, 0, none⟩ = some (.int .i64 blk) ∧ w'.cell? ⟨W3.heap.size, 1, none⟩ = some (.int .i64 (c.clock + 1)) ∧ w'.cell? ⟨W3.heap.size, 2, none⟩ = some (.string txt) ∧ w'.cell? ⟨w.heap.size, 0, none⟩ = some (.int .i64 c.room) ∧ w'.cell? ⟨w.heap.size, 1, none⟩ = some (.int .i64 c.clock) ∧ w'.cell? ⟨w.heap.size, 2, none⟩ = some (.slice a c.held.length cap))
            (first | assumption | (refine ⟨?_, ?_, ?_, ?_, ?_, ?_⟩ <;> assumption) | (exact ⟨(set3_far hne).trans (by assumption), (set3_far hne).trans (by assumption), (set3_far hne).trans (by assumption), (set3_far hne2).trans (by assumption), (set3_far hne2).trans (by assumption), (set3_far hne2).trans (by assumption)⟩) | go_keep)
            (first | (go_at_call 30; refine H30.out.mono ?_; rintro e w28 ⟨a', n, k, rfl, ⟨t0, t1, t2, t3, t4, t5⟩, ⟨s0, s1, s2, s3, s4, s5⟩, h28, hb28⟩))
          have hlen2 := h28.out.len
          have lR3 : w.heap.size + 1 < V.heap.size := by rw [HZV.out]; omega
          have HL2 := Lib.hid hlen2
          clear hlen2
          go_wp2
          obtain ⟨z0, z1, z2⟩ := set3_at (x := .int .i64 c.room) (y := .int .i64 (c.clock + 1)) (z := .slice a' n k) s0 s1 s2
          refine bodyPost_ret (v := .tuple #[.int .i64 (-1), .agg #[.int .i64 c.room, .int .i64 (c.clock + 1), .slice a' n k], .int .i64 0]) ?_ rfl ?_
          · exact results_tct (t := 6) (p := 7) (u := 8) (ty := TS) rfl _ _ _ ⟨w.heap.size + 1, 0, none⟩ _ (by rfl) (load_sh _ _ _ _ _ z0 z1 z2)
          · refine ⟨a', k, ?_, ?_, Below.set3 hb28.out (by omega) _ _ _⟩
            · rw [E.out]
              unfold sval after
              simp only
              rw [HL2.out]
            · rw [E.out]
              exact ⟨(((h28.out.set lR3 _).set lR3 _).set lR3 _).src, fun ha => ⟨HL2.out.trans (h28.out.nil ha).1, (h28.out.nil ha).2⟩, Wf.put (fun x hx => HSW.out.wf x (mem_drop.1 hx).1) (HGD.out.2.2.2.2.2.2.1.drop _) _ hb0 hb1⟩
      · obtain ⟨i, hi, hpl, hix⟩ := place_of_some HGD.out.2.2.2.2.2.2.1 hf
        rw [hpl]
        have hgo : goes c blk = -1 := by unfold goes; rw [hf]; simp
        rw [hgo] at E
        clear hf hgo hpl hix
        go_wp2_with fail
        obtain ⟨V, hV⟩ : ∃ V, W3.alloc (.cells #[.int .i64 blk, .int .i64 (c.clock + 1), .string txt] TH) = V := ⟨_, rfl⟩
        have hzV : V.heap.size = W3.heap.size + 1 := by rw [← hV]; exact size_alloc' _ _
        have hVb : Below W3.heap.size W3 V := by rw [← hV]; exact (Below.refl _ _).alloc (Nat.le_refl _) _
        have hbx : HBox V W3.heap.size ⟨blk, c.clock + 1, txt⟩ := by rw [← hV]; exact HBox.new W3 ⟨blk, c.clock + 1, txt⟩
        obtain ⟨v0, v1, v2⟩ := hbx.at_
        have hk0 : V.heap[w.heap.size]? = W3.heap[w.heap.size]? := hVb.block _ (by omega)
        have hk1 : V.heap[w.heap.size + 1]? = W3.heap[w.heap.size + 1]? := hVb.block _ (by omega)
        have hX3 : Bx V w.heap.size c.room c.clock a c.held.length cap := ⟨(World.cell?_of_block hk0).trans HX3.out.x0, (World.cell?_of_block hk0).trans HX3.out.x1, (World.cell?_of_block hk0).trans HX3.out.x2⟩
        have hR3 : Rz V (w.heap.size + 1) := HR3.out.kept hk1
        have hSV : HSrc V a c.held := HS3.out.src.below hVb rfl
        have hBV : Below w.heap.size w V := HB3.out.trans (hVb.mono (by omega))
        have h30 : Calls Try.prog 30 #[.slice a c.held.length cap, .int .i64 (-1), .agg #[.int .i64 blk, .int .i64 (c.clock + 1), .string txt]] V.drew fun e w1 => ∃ a' n' k, e = .returned (.slice a' n' k) ∧
            (w1.cell? ⟨W3.heap.size, 0, none⟩ = some (.int .i64 blk) ∧ w1.cell? ⟨W3.heap.size, 1, none⟩ = some (.int .i64 (c.clock + 1)) ∧ w1.cell? ⟨W3.heap.size, 2, none⟩ = some (.string txt) ∧ w1.cell? ⟨w.heap.size, 0, none⟩ = some (.int .i64 c.room) ∧ w1.cell? ⟨w.heap.size, 1, none⟩ = some (.int .i64 c.clock) ∧ w1.cell? ⟨w.heap.size, 2, none⟩ = some (.slice a c.held.length cap)) ∧
            (w1.cell? ⟨w.heap.size + 1, 0, none⟩ = some (.int .i64 0) ∧ w1.cell? ⟨w.heap.size + 1, 1, none⟩ = some (.int .i64 0) ∧ w1.cell? ⟨w.heap.size + 1, 2, none⟩ = some (.slice none 0 0) ∧ w1.frozen? ⟨w.heap.size + 1, 0, none⟩ = false ∧ w1.frozen? ⟨w.heap.size + 1, 1, none⟩ = false ∧ w1.frozen? ⟨w.heap.size + 1, 2, none⟩ = false) ∧
            RowKit.Hid (OwnH w1 V.heap.size a' n' k (put ⟨blk, c.clock + 1, txt⟩ (drop (-1) c.held))) ∧ RowKit.Hid (Below w.heap.size w w1) := by
          refine (rwith_any a cap c.held.length c.held (-1) ⟨blk, c.clock + 1, txt⟩ V.drew rfl (by omega) HGD.out.2.2.2.2.2.2.1 (hSV.below ((Below.refl V.heap.size V).drew) rfl)).mono ?_
          rintro e w1 ⟨a', n', k, he, ho, hb⟩
          have hb' : Below V.heap.size V w1 := ((Below.refl V.heap.size V).drew).trans hb
          have q0 : ∀ i, w1.cell? ⟨w.heap.size, i, none⟩ = V.cell? ⟨w.heap.size, i, none⟩ := fun i => World.cell?_of_block (hb'.block w.heap.size (by omega))
          have q1 : Rz w1 (w.heap.size + 1) := hR3.kept (hb'.block _ (by omega))
          have q2 : ∀ i, w1.cell? ⟨W3.heap.size, i, none⟩ = V.cell? ⟨W3.heap.size, i, none⟩ := fun i => World.cell?_of_block (hb'.block W3.heap.size (by omega))
          exact ⟨a', n', k, he, ⟨(q2 0).trans v0, (q2 1).trans v1, (q2 2).trans v2, (q0 0).trans hX3.x0, (q0 1).trans hX3.x1, (q0 2).trans hX3.x2⟩, ⟨q1.r0, q1.r1, q1.r2, q1.f0, q1.f1, q1.f2⟩, Lib.hid ho, Lib.hid (hBV.trans (hb'.mono (by omega)))⟩
        obtain ⟨y0, y1, y2⟩ := hX3
        obtain ⟨r0, r1, r2, f0, f1, f2⟩ := hR3
        have H30 := Lib.hid h30
        have HZV := Lib.hid hzV
        have hne : W3.heap.size ≠ w.heap.size + 1 := by omega
        have hne2 : w.heap.size ≠ w.heap.size + 1 := by omega
        rw [hV]
        clear h30 hV hzV hVb hbx hk0 hk1 hSV hBV
        go_region_held3 (fun w' => w'.cell? ⟨W3.heap.size, 0, none⟩ = some (.int .i64 blk) ∧ w'.cell? ⟨W3.heap.size, 1, none⟩ = some (.int .i64 (c.clock + 1)) ∧ w'.cell? ⟨W3.heap.size, 2, none⟩ = some (.string txt) ∧ w'.cell? ⟨w.heap.size, 0, none⟩ = some (.int .i64 c.room) ∧ w'.cell? ⟨w.heap.size, 1, none⟩ = some (.int .i64 c.clock) ∧ w'.cell? ⟨w.heap.size, 2, none⟩ = some (.slice a c.held.length cap))
          (first | assumption | (refine ⟨?_, ?_, ?_, ?_, ?_, ?_⟩ <;> assumption) | (exact ⟨(set3_far hne).trans (by assumption), (set3_far hne).trans (by assumption), (set3_far hne).trans (by assumption), (set3_far hne2).trans (by assumption), (set3_far hne2).trans (by assumption), (set3_far hne2).trans (by assumption)⟩) | go_keep)
          (first | (go_at_call 30; refine H30.out.mono ?_; rintro e w28 ⟨a', n, k, rfl, ⟨t0, t1, t2, t3, t4, t5⟩, ⟨s0, s1, s2, s3, s4, s5⟩, h28, hb28⟩))
        have hlen2 := h28.out.len
        have lR3 : w.heap.size + 1 < V.heap.size := by rw [HZV.out]; omega
        have HL2 := Lib.hid hlen2
        clear hlen2
        go_wp2
        obtain ⟨z0, z1, z2⟩ := set3_at (x := .int .i64 c.room) (y := .int .i64 (c.clock + 1)) (z := .slice a' n k) s0 s1 s2
        refine bodyPost_ret (v := .tuple #[.int .i64 (-1), .agg #[.int .i64 c.room, .int .i64 (c.clock + 1), .slice a' n k], .int .i64 0]) ?_ rfl ?_
        · exact results_tct (t := 6) (p := 7) (u := 8) (ty := TS) rfl _ _ _ ⟨w.heap.size + 1, 0, none⟩ _ (by rfl) (load_sh _ _ _ _ _ z0 z1 z2)
        · refine ⟨a', k, ?_, ?_, Below.set3 hb28.out (by omega) _ _ _⟩
          · rw [E.out]
            unfold sval after
            simp only
            rw [HL2.out]
          · rw [E.out]
            exact ⟨(((h28.out.set lR3 _).set lR3 _).set lR3 _).src, fun ha => ⟨HL2.out.trans (h28.out.nil ha).1, (h28.out.nil ha).2⟩, Wf.put (fun x hx => HSW.out.wf x (mem_drop.1 hx).1) (HGD.out.2.2.2.2.2.2.1.drop _) _ hb0 hb1⟩
  · have E := Lib.hid (show keep c blk txt = (0, zero, 1) by unfold keep; rw [if_neg hr])
    have hrf : right c = false ∨ blk < 0 := by
      by_cases h : right c = true
      · right
        have : ¬ 0 ≤ blk := fun h2 => hr ⟨h, h2⟩
        omega
      · left; simpa using h
    clear hr
    rcases hrf with hrf | hrf
    · rw [hrf]
      clear hrf
      go_wp2
      obtain ⟨z0, z1, z2⟩ := set3_at (x := .int .i64 0) (y := .int .i64 0) (z := .slice none 0 0) r0 r1 r2
      refine bodyPost_ret (v := .tuple #[.int .i64 0, .agg #[.int .i64 0, .int .i64 0, .slice none 0 0], .int .i64 1]) ?_ rfl ?_
      · exact results_tct (t := 6) (p := 7) (u := 8) (ty := TS) rfl _ _ _ ⟨w.heap.size + 1, 0, none⟩ _ (by rfl) (load_sh _ _ _ _ _ z0 z1 z2)
      · exact ⟨none, 0, by rw [E.out]; rfl, by rw [E.out]; exact ShW.zero _, Below.set3 HBW.out (by omega) _ _ _⟩
    · rcases hrc : right c with _ | _
      all_goals
        go_wp2
        obtain ⟨z0, z1, z2⟩ := set3_at (x := .int .i64 0) (y := .int .i64 0) (z := .slice none 0 0) r0 r1 r2
        refine bodyPost_ret (v := .tuple #[.int .i64 0, .agg #[.int .i64 0, .int .i64 0, .slice none 0 0], .int .i64 1]) ?_ rfl ?_
        · exact results_tct (t := 6) (p := 7) (u := 8) (ty := TS) rfl _ _ _ ⟨w.heap.size + 1, 0, none⟩ _ (by rfl) (load_sh _ _ _ _ _ z0 z1 z2)
        · exact ⟨none, 0, by rw [E.out]; rfl, by rw [E.out]; exact ShW.zero _, Below.set3 HBW.out (by omega) _ _ _⟩
end Cache
end Go.Proofs.Ytpkhafijmbgcnaa
