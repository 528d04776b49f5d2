/- The document's Take (chapter 21). -/
import Derived.Test.YtpkhafijmbgcnaaDOrder
namespace Go.Proofs.Ytpkhafijmbgcnaa
namespace Cache
open Go.RowKit Go.Shelf
set_option linter.unusedVariables false

set_option maxRecDepth 100000 in
set_option maxHeartbeats 4000000 in
theorem rtake_any (c : Sh) (a : Option Addr) (cap : Nat) (blk : Int) (w : World) (hm : c.held.length ≤ 1000000) (hs : ShW w c a cap) (hb0 : -9223372036854775808 ≤ blk) (hb1 : blk ≤ 9223372036854775807) :
    Calls Try.prog 22 #[sval c a cap, .int .i64 blk] w fun e w' => ∃ a' k, e = .returned (.tuple #[.string (take c blk).1, sval (take c blk).2.1 a' k, .int .i64 (take c blk).2.2]) ∧ ShW w' (take c blk).2.1 a' k ∧ Below w.heap.size w w' := by
  obtain ⟨W0, hW0⟩ : ∃ W0, (w.alloc (.cells #[.int .i64 c.room, .int .i64 c.clock, .slice a c.held.length cap] TS)).alloc (.cells #[.int .i64 0, .int .i64 0, .slice none 0 0] TS) = W0 := ⟨_, rfl⟩
  have hs0 : W0.heap.size = w.heap.size + 2 := by rw [← hW0, size_alloc', size_alloc']
  have hbW0 : Below w.heap.size w W0 := by rw [← hW0]; exact ((Below.refl _ w).alloc (Nat.le_refl _) _).alloc (by rw [size_alloc']; omega) _
  have hg0 : W0.heap[w.heap.size]? = some (.cells #[.int .i64 c.room, .int .i64 c.clock, .slice a c.held.length cap] TS (0, 0)) := by
    rw [← hW0, Below.heap_alloc _ _ _ (by rw [size_alloc']; omega)]; exact World.alloc_heap_new _ _
  have hg1 : W0.heap[w.heap.size + 1]? = some (.cells #[.int .i64 0, .int .i64 0, .slice none 0 0] TS (0, 0)) := by
    rw [← hW0]
    have h := World.alloc_heap_new (w.alloc (.cells #[.int .i64 c.room, .int .i64 c.clock, .slice a c.held.length cap] TS)) (.cells #[.int .i64 0, .int .i64 0, .slice none 0 0] TS)
    rwa [size_alloc'] at h
  obtain ⟨x0, x1, x2⟩ := Bx.of hg0
  have HR := Lib.hid (rright_any c a cap W0 (by unfold maxLen; omega) (hs.src.below hbW0 rfl))
  have HG0 := Lib.hid hg0
  have HG1 := Lib.hid hg1
  have HB0 := Lib.hid hbW0
  have HS := Lib.hid hs
  have HS0 := Lib.hid hs0
  clear hg0 hg1 hbW0 hs hs0
  unfold sval at HR
  rw [show sval c a cap = .agg #[.int .i64 c.room, .int .i64 c.clock, .slice a c.held.length cap] from rfl]
  go_enter Try.func22, Try.ntmps22
  go_wp2_with fail
  refine HR.out.mono ?_
  rintro e W ⟨rfl, hbW⟩
  have hk0 : W.heap[w.heap.size]? = some (.cells #[.int .i64 c.room, .int .i64 c.clock, .slice a c.held.length cap] TS (0, 0)) := (hbW.block _ (by rw [HS0.out]; omega)).trans HG0.out
  have hk1 : W.heap[w.heap.size + 1]? = some (.cells #[.int .i64 0, .int .i64 0, .slice none 0 0] TS (0, 0)) := (hbW.block _ (by rw [HS0.out]; omega)).trans HG1.out
  have hsW : w.heap.size + 2 ≤ W.heap.size := by have := hbW.size; rw [HS0.out] at this; exact this
  obtain ⟨y0, y1, y2⟩ := Bx.of hk0
  obtain ⟨r0, r1, r2, f0, f1, f2⟩ := Rz.of hk1
  have HK0 := Lib.hid hk0
  have HK1 := Lib.hid hk1
  have HBW := Lib.hid (HB0.out.trans (hbW.mono (by rw [HS0.out]; omega)))
  have HSW := Lib.hid ((HS.out.below HB0.out rfl).below hbW rfl)
  clear hbW hk0 hk1 x0 x1 x2 hW0
  by_cases hr : right c = true
  · have HRT := Lib.hid hr
    have hg := (right_iff c).1 hr
    unfold Right at hg
    have hlen : c.held.length ≤ 64 := by omega
    have HGD := Lib.hid hg
    rw [hr]
    clear hr hg
    have HOF := Lib.hid (rfind_any c a cap blk W (by omega) HSW.out.src)
    unfold sval at HOF
    go_wp2_with fail
    refine HOF.out.mono ?_
    rintro e W2 ⟨rfl, hb2⟩
    have hk0 : W2.heap[w.heap.size]? = W.heap[w.heap.size]? := hb2.block _ (by omega)
    have hk1 : W2.heap[w.heap.size + 1]? = W.heap[w.heap.size + 1]? := hb2.block _ (by omega)
    rw [HK0.out] at hk0
    rw [HK1.out] at hk1
    have HX2 := Lib.hid (Bx.of hk0)
    have HR2 := Lib.hid (Rz.of hk1)
    obtain ⟨y0, y1, y2⟩ := Bx.of hk0
    obtain ⟨r0, r1, r2, f0, f1, f2⟩ := Rz.of hk1
    have hz2 : W.heap.size ≤ W2.heap.size := hb2.size
    have lX2 : w.heap.size < W2.heap.size := by omega
    have lR2 : w.heap.size + 1 < W2.heap.size := by omega
    have HB2 := Lib.hid (HBW.out.trans (hb2.mono (by omega)))
    have HS2 := Lib.hid (HSW.out.below hb2 rfl)
    clear hk0 hk1 hb2
    rcases hf : find blk c.held with _ | h
    · have E := Lib.hid (show take c blk = (⟨#[]⟩, zero, 5) by unfold take; rw [if_pos HRT.out, hf])
      rw [place_of_none hf]
      clear hf
      go_wp2
      obtain ⟨z0, z1, z2⟩ := set3_at (w := W2) (R := w.heap.size + 1) (x := .int .i64 0) (y := .int .i64 0) (z := .slice none 0 0) r0 r1 r2
      refine bodyPost_ret (v := .tuple #[.string ⟨#[]⟩, .agg #[.int .i64 0, .int .i64 0, .slice none 0 0], .int .i64 5]) ?_ rfl ?_
      · exact results_tct (t := 4) (p := 5) (u := 6) (ty := TS) rfl _ _ _ ⟨w.heap.size + 1, 0, none⟩ _ (by rfl) (load_sh _ _ _ _ _ z0 z1 z2)
      · exact ⟨none, 0, by rw [E.out]; rfl, by rw [E.out]; exact ShW.zero _, Below.set3 HB2.out (by omega) _ _ _⟩
    · obtain ⟨i, hi, hpl, hix⟩ := place_of_some HGD.out.2.2.2.2.2.2.1 hf
      rw [hpl]
      by_cases hcl : c.clock = MaxC
      · have E := Lib.hid (show take c blk = (⟨#[]⟩, zero, 4) by unfold take; rw [if_pos HRT.out, hf]; simp only; rw [if_pos hcl])
        clear hf hpl hix
        unfold MaxC at hcl
        rw [hcl] at y1
        have HCL := Lib.hid hcl
        clear hcl
        go_wp2
        obtain ⟨z0, z1, z2⟩ := set3_at (w := W2) (R := w.heap.size + 1) (x := .int .i64 0) (y := .int .i64 0) (z := .slice none 0 0) r0 r1 r2
        refine bodyPost_ret (v := .tuple #[.string ⟨#[]⟩, .agg #[.int .i64 0, .int .i64 0, .slice none 0 0], .int .i64 4]) ?_ rfl ?_
        · exact results_tct (t := 4) (p := 5) (u := 6) (ty := TS) rfl _ _ _ ⟨w.heap.size + 1, 0, none⟩ _ (by rfl) (load_sh _ _ _ _ _ z0 z1 z2)
        · exact ⟨none, 0, by rw [E.out]; rfl, by rw [E.out]; exact ShW.zero _, Below.set3 HB2.out (by omega) _ _ _⟩
      · have E := Lib.hid (show take c blk = (h.txt, after c c.held blk h.txt, 0) by unfold take; rw [if_pos HRT.out, hf]; simp only; rw [if_neg hcl])
        obtain ⟨hmem, hhb⟩ := find_some hf
        have hblk : 0 ≤ blk := by rw [← hhb]; exact (HGD.out.2.2.2.2.2.1 h hmem).1
        have hclb : 0 ≤ c.clock ∧ c.clock < 1099511627776 := by have h1 := HGD.out.2.2.1; have h2 := HGD.out.2.2.2.1; unfold MaxC at h2 hcl; omega
        obtain ⟨hc0, hc1⟩ := hclb
        have hcq : (c.clock == 1099511627776) = false := by simp; omega
        have hwr : IntKind.i64.wrap (c.clock + 1) = c.clock + 1 := IntWalk.i64_in _ ⟨by omega, by omega⟩
        obtain ⟨b, off, ha, hbl, e0, e1, e2⟩ := HS2.out.src.at_ i hi
        subst ha
        rw [hix] at e2
        clear hf hmem hhb hpl hix hcl e0 e1
        have hi0 : (0 : Int) ≤ (i : Int) := by omega
        have hi1 : (i : Int) < (c.held.length : Int) := by omega
        go_wp2
        go_region_held3 (fun w' => w'.cell? ⟨b, off + i * 3 + 2, none⟩ = some (.string h.txt) ∧ w'.cell? ⟨w.heap.size, 1, none⟩ = some (.int .i64 c.clock) ∧ w'.cell? ⟨w.heap.size, 2, none⟩ = some (.slice (some ⟨b, off, none⟩) c.held.length cap))
          (first | assumption | (refine ⟨?_, ?_, ?_⟩ <;> assumption) | (exact ⟨cellAl (by assumption) _, cellAl (by assumption) _, cellAl (by assumption) _⟩) | go_keep)
          (fail)
        rename_i hHeld
        clear hHeld
        obtain ⟨V, hV⟩ : ∃ V, (W2.alloc (.cells #[.int .i64 blk, .int .i64 (c.clock + 1), .string h.txt] TH)).drew = V := ⟨_, rfl⟩
        have hzV : V.heap.size = W2.heap.size + 1 := by rw [← hV]; exact size_alloc' _ _
        have hVb : Below W2.heap.size W2 V := by rw [← hV]; exact ((Below.refl _ _).alloc (Nat.le_refl _) _).drew
        have hbx : HBox V W2.heap.size ⟨blk, c.clock + 1, h.txt⟩ := by rw [← hV]; exact HBox.new W2 ⟨blk, c.clock + 1, h.txt⟩
        obtain ⟨v0, v1, v2⟩ := hbx.at_
        have hk0 : V.heap[w.heap.size]? = W2.heap[w.heap.size]? := hVb.block _ (by omega)
        have hk1 : V.heap[w.heap.size + 1]? = W2.heap[w.heap.size + 1]? := hVb.block _ (by omega)
        have hX3 : Bx V w.heap.size c.room c.clock (some ⟨b, off, none⟩) c.held.length cap := ⟨(World.cell?_of_block hk0).trans HX2.out.x0, (World.cell?_of_block hk0).trans HX2.out.x1, (World.cell?_of_block hk0).trans HX2.out.x2⟩
        have hR3 : Rz V (w.heap.size + 1) := HR2.out.kept hk1
        have hSV : HSrc V (some ⟨b, off, none⟩) c.held := HS2.out.src.below hVb rfl
        have hBV : Below w.heap.size w V := HB2.out.trans (hVb.mono (by omega))
        have hdr : drop (-1) c.held = c.held := drop_none _ _ (fun x hx => by have := (HGD.out.2.2.2.2.2.1 x hx).1; omega)
        have h30 : Calls Try.prog 30 #[.slice (some ⟨b, off, none⟩) c.held.length cap, .int .i64 (-1), .agg #[.int .i64 blk, .int .i64 (c.clock + 1), .string h.txt]] V.drew fun e w1 => ∃ a' n' k, e = .returned (.slice a' n' k) ∧
            (w1.cell? ⟨W2.heap.size, 0, none⟩ = some (.int .i64 blk) ∧ w1.cell? ⟨W2.heap.size, 1, none⟩ = some (.int .i64 (c.clock + 1)) ∧ w1.cell? ⟨W2.heap.size, 2, none⟩ = some (.string h.txt) ∧ w1.cell? ⟨w.heap.size, 0, none⟩ = some (.int .i64 c.room) ∧ w1.cell? ⟨w.heap.size, 1, none⟩ = some (.int .i64 c.clock) ∧ w1.cell? ⟨w.heap.size, 2, none⟩ = some (.slice (some ⟨b, off, none⟩) c.held.length cap)) ∧
            (w1.cell? ⟨w.heap.size + 1, 0, none⟩ = some (.int .i64 0) ∧ w1.cell? ⟨w.heap.size + 1, 1, none⟩ = some (.int .i64 0) ∧ w1.cell? ⟨w.heap.size + 1, 2, none⟩ = some (.slice none 0 0) ∧ w1.frozen? ⟨w.heap.size + 1, 0, none⟩ = false ∧ w1.frozen? ⟨w.heap.size + 1, 1, none⟩ = false ∧ w1.frozen? ⟨w.heap.size + 1, 2, none⟩ = false) ∧
            RowKit.Hid (OwnH w1 V.heap.size a' n' k (put ⟨blk, c.clock + 1, h.txt⟩ c.held)) ∧ RowKit.Hid (Below w.heap.size w w1) := by
          refine (rwith_any (some ⟨b, off, none⟩) cap c.held.length c.held (-1) ⟨blk, c.clock + 1, h.txt⟩ V.drew rfl (by omega) HGD.out.2.2.2.2.2.2.1 (hSV.below ((Below.refl V.heap.size V).drew) rfl)).mono ?_
          rintro e w1 ⟨a', n', k, he, ho, hb⟩
          rw [hdr] at ho
          have hb' : Below V.heap.size V w1 := ((Below.refl V.heap.size V).drew).trans hb
          have q0 : ∀ i, w1.cell? ⟨w.heap.size, i, none⟩ = V.cell? ⟨w.heap.size, i, none⟩ := fun i => World.cell?_of_block (hb'.block w.heap.size (by omega))
          have q1 : Rz w1 (w.heap.size + 1) := hR3.kept (hb'.block _ (by omega))
          have q2 : ∀ i, w1.cell? ⟨W2.heap.size, i, none⟩ = V.cell? ⟨W2.heap.size, i, none⟩ := fun i => World.cell?_of_block (hb'.block W2.heap.size (by omega))
          exact ⟨a', n', k, he, ⟨(q2 0).trans v0, (q2 1).trans v1, (q2 2).trans v2, (q0 0).trans hX3.x0, (q0 1).trans hX3.x1, (q0 2).trans hX3.x2⟩, ⟨q1.r0, q1.r1, q1.r2, q1.f0, q1.f1, q1.f2⟩, Lib.hid ho, Lib.hid (hBV.trans (hb'.mono (by omega)))⟩
        obtain ⟨y0, y1, y2⟩ := hX3
        obtain ⟨r0, r1, r2, f0, f1, f2⟩ := hR3
        have H30 := Lib.hid h30
        have HZV := Lib.hid hzV
        have hne : W2.heap.size ≠ w.heap.size + 1 := by omega
        have hne2 : w.heap.size ≠ w.heap.size + 1 := by omega
        rw [hV]
        clear h30 hV hzV hVb hbx hk0 hk1 hSV hBV hdr e2 hi0 hi1
        go_wp2
        go_region_held3 (fun w' => w'.cell? ⟨W2.heap.size, 0, none⟩ = some (.int .i64 blk) ∧ w'.cell? ⟨W2.heap.size, 1, none⟩ = some (.int .i64 (c.clock + 1)) ∧ w'.cell? ⟨W2.heap.size, 2, none⟩ = some (.string h.txt) ∧ w'.cell? ⟨w.heap.size, 0, none⟩ = some (.int .i64 c.room) ∧ w'.cell? ⟨w.heap.size, 1, none⟩ = some (.int .i64 c.clock) ∧ w'.cell? ⟨w.heap.size, 2, none⟩ = some (.slice (some ⟨b, off, none⟩) c.held.length cap))
          (first | assumption | (refine ⟨?_, ?_, ?_, ?_, ?_, ?_⟩ <;> assumption) | (exact ⟨(set3_far hne).trans (by assumption), (set3_far hne).trans (by assumption), (set3_far hne).trans (by assumption), (set3_far hne2).trans (by assumption), (set3_far hne2).trans (by assumption), (set3_far hne2).trans (by assumption)⟩) | go_keep)
          (first | (go_at_call 30; refine H30.out.mono ?_; rintro e w28 ⟨a', n, k, rfl, ⟨t0, t1, t2, t3, t4, t5⟩, ⟨s0, s1, s2, s3, s4, s5⟩, h28, hb28⟩))
        have hlen2 := h28.out.len
        have lR3 : w.heap.size + 1 < V.heap.size := by rw [HZV.out]; omega
        have HL2 := Lib.hid hlen2
        clear hlen2
        go_wp2
        obtain ⟨z0, z1, z2⟩ := set3_at (x := .int .i64 c.room) (y := .int .i64 (c.clock + 1)) (z := .slice a' n k) s0 s1 s2
        refine bodyPost_ret (v := .tuple #[.string h.txt, .agg #[.int .i64 c.room, .int .i64 (c.clock + 1), .slice a' n k], .int .i64 0]) ?_ rfl ?_
        · exact results_tct (t := 4) (p := 5) (u := 6) (ty := TS) rfl _ _ _ ⟨w.heap.size + 1, 0, none⟩ _ (by rfl) (load_sh _ _ _ _ _ z0 z1 z2)
        · refine ⟨a', k, ?_, ?_, Below.set3 hb28.out (by omega) _ _ _⟩
          · rw [E.out]
            unfold sval after
            simp only
            rw [HL2.out]
          · rw [E.out]
            exact ⟨(((h28.out.set lR3 _).set lR3 _).set lR3 _).src, fun ha => ⟨HL2.out.trans (h28.out.nil ha).1, (h28.out.nil ha).2⟩, HSW.out.wf.put HGD.out.2.2.2.2.2.2.1 _ hb0 hb1⟩
  · have hrf : right c = false := by simpa using hr
    have E := Lib.hid (show take c blk = (⟨#[]⟩, zero, 1) by unfold take; rw [if_neg hr])
    rw [hrf]
    clear hr hrf
    go_wp2
    obtain ⟨z0, z1, z2⟩ := set3_at (x := .int .i64 0) (y := .int .i64 0) (z := .slice none 0 0) r0 r1 r2
    refine bodyPost_ret (v := .tuple #[.string ⟨#[]⟩, .agg #[.int .i64 0, .int .i64 0, .slice none 0 0], .int .i64 1]) ?_ rfl ?_
    · exact results_tct (t := 4) (p := 5) (u := 6) (ty := TS) rfl _ _ _ ⟨w.heap.size + 1, 0, none⟩ _ (by rfl) (load_sh _ _ _ _ _ z0 z1 z2)
    · exact ⟨none, 0, by rw [E.out]; rfl, by rw [E.out]; exact ShW.zero _, Below.set3 HBW.out (by omega) _ _ _⟩
end Cache
end Go.Proofs.Ytpkhafijmbgcnaa
