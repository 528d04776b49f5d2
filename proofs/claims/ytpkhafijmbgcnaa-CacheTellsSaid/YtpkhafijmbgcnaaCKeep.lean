/- Keep (chapter 21). -/
import Derived.Test.YtpkhafijmbgcnaaCTake
namespace Go.Proofs.Ytpkhafijmbgcnaa
namespace Cache
open Go.RowKit Go.Shelf
set_option linter.unusedVariables false

theorem len_eq {P : Program} {w : World} {ops : Array Oper} {rest : List Oper} {o : Oper} {a : Act} {Q : Exit → Act → World → Prop} (hw : Region.wanted o (yielded ops a.tmps) = true) (m : Operand) (t : TypeId)
    (ho : o.op = .call { callee := .builtin .len, args := #[m], argTypes := #[t] }) {vm : Value} {n : Int} (hm : a.eval m = vm) (hr : (Builtin.len_ #[t] o.type #[vm]).run P w = .ok (.int .i64 n) w) (h : wpList P ops Q rest (a.put o.dst (.int .i64 n)) w) : wpList P ops Q (o :: rest) a w := by
  refine BigFrame.wpList_want hw fun K hK => ?_
  unfold Oper.wp execOp
  simp only [ho, resolve, invoke, builtin, Sem.run_bind, Sem.run_pure, Result.andThen_ok, List.map_toArray, List.map_cons, List.map_nil, hm, hr]
  exact hK _ _ h
set_option maxRecDepth 100000 in
set_option maxHeartbeats 4000000 in
theorem keep_any (c : Sh) (a : Option Addr) (cap : Nat) (blk : Int) (txt : ByteArray) (w : World) (hm : c.held.length ≤ 1000000) (hs : ShW w c a cap) (hb0 : -9223372036854775808 ≤ blk) (hb1 : blk ≤ 9223372036854775807) :
    Calls Try.prog 23 #[sval c a cap, .int .i64 blk, .string txt] w fun e w' => ∃ a' k, e = .returned (.tuple #[.int .i64 (keep c blk txt).1, sval (keep c blk txt).2.1 a' k, .int .i64 (keep c blk txt).2.2]) ∧ ShW w' (keep c blk txt).2.1 a' k ∧ Below w.heap.size w w' := by
  obtain ⟨W0, hW0⟩ : ∃ W0, (w.alloc (.cells #[.int .i64 c.room, .int .i64 c.clock, .slice a c.held.length cap] TS)).alloc (.cells #[.int .i64 0, .int .i64 0, .slice none 0 0] TS) = W0 := ⟨_, rfl⟩
  have hs0 : W0.heap.size = w.heap.size + 2 := by rw [← hW0, size_alloc', size_alloc']
  have hbW0 : Below w.heap.size w W0 := by rw [← hW0]; exact ((Below.refl _ w).alloc (Nat.le_refl _) _).alloc (by rw [size_alloc']; omega) _
  have hg0 : W0.heap[w.heap.size]? = some (.cells #[.int .i64 c.room, .int .i64 c.clock, .slice a c.held.length cap] TS (0, 0)) := by
    rw [← hW0, Below.heap_alloc _ _ _ (by rw [size_alloc']; omega)]; exact World.alloc_heap_new _ _
  have hg1 : W0.heap[w.heap.size + 1]? = some (.cells #[.int .i64 0, .int .i64 0, .slice none 0 0] TS (0, 0)) := by
    rw [← hW0]
    have h := World.alloc_heap_new (w.alloc (.cells #[.int .i64 c.room, .int .i64 c.clock, .slice a c.held.length cap] TS)) (.cells #[.int .i64 0, .int .i64 0, .slice none 0 0] TS)
    rwa [size_alloc'] at h
  obtain ⟨x0, x1, x2⟩ := Bx.of hg0
  have HR := Lib.hid (right_any c a cap W0 (by unfold maxLen; omega) (hs.src.below hbW0 rfl))
  have HG0 := Lib.hid hg0
  have HG1 := Lib.hid hg1
  have HB0 := Lib.hid hbW0
  have HS := Lib.hid hs
  have HS0 := Lib.hid hs0
  clear hg0 hg1 hbW0 hs hs0
  unfold sval at HR
  rw [show sval c a cap = .agg #[.int .i64 c.room, .int .i64 c.clock, .slice a c.held.length cap] from rfl]
  go_enter Try.func23, Try.ntmps23
  go_wp2_with fail
  refine HR.out.mono ?_
  rintro e W ⟨rfl, hbW⟩
  have hk0 : W.heap[w.heap.size]? = some (.cells #[.int .i64 c.room, .int .i64 c.clock, .slice a c.held.length cap] TS (0, 0)) := (hbW.block _ (by rw [HS0.out]; omega)).trans HG0.out
  have hk1 : W.heap[w.heap.size + 1]? = some (.cells #[.int .i64 0, .int .i64 0, .slice none 0 0] TS (0, 0)) := (hbW.block _ (by rw [HS0.out]; omega)).trans HG1.out
  have hsW : w.heap.size + 2 ≤ W.heap.size := by have := hbW.size; rw [HS0.out] at this; exact this
  obtain ⟨y0, y1, y2⟩ := Bx.of hk0
  obtain ⟨r0, r1, r2, f0, f1, f2⟩ := Rz.of hk1
  have HK0 := Lib.hid hk0
  have HK1 := Lib.hid hk1
  have HBW := Lib.hid (HB0.out.trans (hbW.mono (by rw [HS0.out]; omega)))
  have HSW := Lib.hid ((HS.out.below HB0.out rfl).below hbW rfl)
  clear hbW hk0 hk1 x0 x1 x2 hW0
  by_cases hr : right c = true ∧ 0 ≤ blk
  · obtain ⟨hr, hblk⟩ := hr
    have HRT := Lib.hid hr
    have hg := (right_iff c).1 hr
    unfold Right at hg
    have hlen : c.held.length ≤ 64 := by omega
    have HGD := Lib.hid hg
    rw [hr]
    clear hr hg
    by_cases hcl : c.clock = MaxC
    · have E := Lib.hid (show keep c blk txt = (0, zero, 4) by unfold keep; rw [if_pos ⟨HRT.out, hblk⟩, if_pos hcl])
      unfold MaxC at hcl
      rw [hcl] at y1
      have HCL := Lib.hid hcl
      clear hcl
      go_wp2
      obtain ⟨z0, z1, z2⟩ := set3_at (x := .int .i64 0) (y := .int .i64 0) (z := .slice none 0 0) r0 r1 r2
      refine bodyPost_ret (v := .tuple #[.int .i64 0, .agg #[.int .i64 0, .int .i64 0, .slice none 0 0], .int .i64 4]) ?_ rfl ?_
      · exact results_tct (t := 6) (p := 7) (u := 8) (ty := TS) rfl _ _ _ ⟨w.heap.size + 1, 0, none⟩ _ (by rfl) (load_sh _ _ _ _ _ z0 z1 z2)
      · exact ⟨none, 0, by rw [E.out]; rfl, by rw [E.out]; exact ShW.zero _, Below.set3 HBW.out (by omega) _ _ _⟩
    · have E := Lib.hid (show keep c blk txt = (goes c blk, after c (drop (goes c blk) c.held) blk txt, 0) by unfold keep; rw [if_pos ⟨HRT.out, hblk⟩, if_neg hcl])
      have HOF := Lib.hid (of_any c a cap W (by omega) HGD.out.2.2.2.2.2.2.1 HSW.out.wf HSW.out.src)
      unfold sval at HOF
      have HCN := Lib.hid hcl
      unfold MaxC at hcl
      go_wp2_with fail
      refine HOF.out.mono ?_
      rintro e W2 ⟨b, rfl, hbb, hdesk, hb2⟩
      have hlook := hdesk.look blk hb0 hb1
      have hk0 : W2.heap[w.heap.size]? = W.heap[w.heap.size]? := hb2.block _ (by omega)
      have hk1 : W2.heap[w.heap.size + 1]? = W.heap[w.heap.size + 1]? := hb2.block _ (by omega)
      rw [HK0.out] at hk0
      rw [HK1.out] at hk1
      have HX2 := Lib.hid (Bx.of hk0)
      have HR2 := Lib.hid (Rz.of hk1)
      have hz2 : W.heap.size ≤ W2.heap.size := hb2.size
      have lX2 : w.heap.size < W2.heap.size := by omega
      have lR2 : w.heap.size + 1 < W2.heap.size := by omega
      have HB2 := Lib.hid (HBW.out.trans (hb2.mono (by omega)))
      have HDK := Lib.hid hdesk
      have HBB := Lib.hid hbb
      clear hk0 hk1 hb2 hdesk hbb y0 y1 y2 r0 r1 r2 f0 f1 f2
      rcases hf : find blk c.held with _ | h
      · by_cases hfull : (c.held.length : Int) = c.room
        · rw [hf] at hlook
          simp only [Option.getD_none, Option.isSome_none, hval, zeroH] at hlook
          obtain ⟨W3, hW3⟩ : ∃ W3, W2.alloc (hobj zeroH) = W3 := ⟨_, rfl⟩
          have hz3 : W3.heap.size = W2.heap.size + 1 := by rw [← hW3, size_alloc']
          have hlen3 : (Builtin.len_ #[TD] 3 #[.map (some b)]).run Try.prog (W2.alloc (.cells #[.int .i64 0, .int .i64 0, .string ⟨#[]⟩] TH)) = .ok (.int .i64 c.held.length) (W2.alloc (.cells #[.int .i64 0, .int .i64 0, .string ⟨#[]⟩] TH)) := (HDK.out.alloc _).len _
          have y0' : (W2.alloc (.cells #[.int .i64 0, .int .i64 0, .string ⟨#[]⟩] TH)).cell? ⟨w.heap.size, 0, none⟩ = some (.int .i64 c.room) := cellAl HX2.out.x0 _
          have y1' : (W2.alloc (.cells #[.int .i64 0, .int .i64 0, .string ⟨#[]⟩] TH)).cell? ⟨w.heap.size, 1, none⟩ = some (.int .i64 c.clock) := cellAl HX2.out.x1 _
          have y2' : (W2.alloc (.cells #[.int .i64 0, .int .i64 0, .string ⟨#[]⟩] TH)).cell? ⟨w.heap.size, 2, none⟩ = some (.slice a c.held.length cap) := cellAl HX2.out.x2 _
          have HW3 := Lib.hid hW3
          have HFU := Lib.hid hfull
          have HFN := Lib.hid hf
          have HB3 := Lib.hid (show Below w.heap.size w W3 by rw [← hW3]; exact HB2.out.alloc (by omega) _)
          have hX3 : Bx W3 w.heap.size c.room c.clock a c.held.length cap := by rw [← hW3]; exact ⟨cellAl HX2.out.x0 _, cellAl HX2.out.x1 _, cellAl HX2.out.x2 _⟩
          have hR3 : Rz W3 (w.heap.size + 1) := by rw [← hW3]; exact HR2.out.kept (Below.heap_alloc _ _ _ lR2)
          have hD3 : DeskW W3 b c.held.length c.held := by rw [← hW3]; exact HDK.out.alloc _
          have HS3 := Lib.hid (HS.out.src.below HB3.out rfl)
          have HX3 := Lib.hid hX3
          have HR3 := Lib.hid hR3
          have HD3 := Lib.hid hD3
          have HO := Lib.hid (order_any c a cap W3 hm HS3.out)
          unfold sval at HO
          clear hW3 hf hX3 hR3 hD3
          go_wp2_with fail
          rw [show W2.alloc (.cells #[.int .i64 0, .int .i64 0, .string ⟨#[]⟩] TH) = W3 from HW3.out]
          clear hlen3 y0' y1' y2'
          refine HO.out.mono ?_
          rintro e W4 ⟨a4, n4, k4, rfl, ho4, hb4⟩
          have hord : order c = (ord c.held).map Hd.blk := by unfold order; rw [if_pos HRT.out]
          have hn4 : n4 = c.held.length := by rw [← ho4.len, List.length_map, hord, List.length_map, ord_length]
          have hn0 : 0 < c.held.length := by have := HGD.out.1; have := HFU.out; omega
          obtain ⟨g4, ha4, hg4, hg4l, hnc4, hat4, _⟩ := ho4.at_ (by omega)
          subst ha4
          subst hn4
          obtain ⟨m, hm1⟩ : ∃ m, c.held.length = m + 1 := ⟨c.held.length - 1, by omega⟩
          have hol : (order c).length = m + 1 := by rw [hord, List.length_map, ord_length, hm1]
          obtain ⟨G, hG⟩ : ∃ G, goes c blk = G := ⟨_, rfl⟩
          have hGm : G ∈ order c ∧ (order c)[m]? = some G := by
            have hne : order c ≠ [] := by intro e; rw [e] at hol; simp at hol
            have e1 : goes c blk = (order c).getLast hne := by
              unfold goes
              rw [if_pos ⟨by rw [HFN.out]; rfl, HFU.out⟩, List.getLastD_eq_getLast?, List.getLast?_eq_some_getLast hne]
              rfl
            rw [← hG, e1]
            refine ⟨List.getLast_mem hne, ?_⟩
            rw [List.getLast_eq_getElem, List.getElem?_eq_getElem (by omega)]
            simp [hol]
          have hcG : W4.cell? ⟨g4, m, none⟩ = some (.int .i64 G) := by rw [hat4 m (by omega), List.getElem?_map, hGm.2]; rfl
          have hGb : ∃ x ∈ c.held, x.blk = G := by
            have h := hGm.1
            rw [hord] at h
            obtain ⟨x, hx, e⟩ := List.mem_map.1 h
            exact ⟨x, (ord_perm c.held).subset hx, e⟩
          have hG0 : -9223372036854775808 ≤ G ∧ G ≤ 9223372036854775807 := by
            obtain ⟨x, hx, e⟩ := hGb
            rw [← e]; exact HS.out.wf x hx
          obtain ⟨W5, hr5, hd5, ht5⟩ := (HD3.out.below hb4 (Nat.le_refl _)).del G hG0.1 hG0.2 3
          have hblt := HDK.out.lt
          have hz4 := hb4.size
          have hgr5 := ht5.grown
          have hk5 : ∀ k, k < W3.heap.size → k ≠ b → W5.heap[k]? = W3.heap[k]? := fun k hk hne => (hgr5.block k (by omega) (fun e => by injection e with e; exact hne e)).trans (hb4.block k hk)
          have hbb := HBB.out
          have hX5 : Bx W5 w.heap.size c.room c.clock a c.held.length cap := by
            have hc : ∀ i, W5.cell? ⟨w.heap.size, i, none⟩ = W3.cell? ⟨w.heap.size, i, none⟩ := fun i => World.cell?_of_block (hk5 w.heap.size (by omega) (by omega))
            exact ⟨by rw [hc]; exact HX3.out.x0, by rw [hc]; exact HX3.out.x1, by rw [hc]; exact HX3.out.x2⟩
          have hR5 : Rz W5 (w.heap.size + 1) := HR3.out.kept (hk5 (w.heap.size + 1) (by omega) (by omega))
          have hB5 : Below w.heap.size w W5 := HB3.out.trans ((hb4.mono (by omega)).trans (mapTurned_below (B := w.heap.size) ht5 (by omega) (by omega)))
          have HX5 := Lib.hid hX5
          have HR5 := Lib.hid hR5
          have HB5 := Lib.hid hB5
          have HD5 := Lib.hid hd5
          have HM1 := Lib.hid hm1
          have HG := Lib.hid hG
          have HB4 := Lib.hid hb4
          have hmb : m ≤ 63 := by omega
          have hz5 := hgr5.size
          have HUK := Lib.hid (used_kept W5 b c.held.length (drop G c.held) c a cap blk txt w.heap.size (w.heap.size + 1) (w.heap.size + 2) hd5 (by omega) (by have := drop_length c.held HGD.out.2.2.2.2.2.2.1 G; omega) HGD.out.2.2.1 (by have := HGD.out.2.2.2.1; unfold MaxC at this ⊢; omega) hblk hb1 (by omega) (by omega) (by omega) hX5 hR5 W5 (Lib.hid (Below.refl _ _)))
          rw [hm1] at HUK
          obtain ⟨y0, y1, y2⟩ := hX5
          rw [hm1] at y2
          have lR5 : w.heap.size + 1 < W5.heap.size := by omega
          clear hR5 hB5 hd5 hgr5 hk5 ht5 hord ho4 hat4 hg4l hb4 hnc4 hGm hGb hol hG hn0
          rw [hm1]
          clear hm1
          go_wp2_with (at_delete; refine del_eq rfl _ _ 61 3 rfl rfl rfl hr5 ?_)
          clear hr5
          rw [HG.out] at E
          refine HUK.out.mono ?_
          rintro e w28 ⟨a', n, k, rfl, p1, p2, p3, p4, p5⟩
          obtain ⟨r0, r1, r2, f0, f1, f2⟩ := p4.out
          have HL2 := Lib.hid p1.out.len
          have HBE := Lib.hid (HB5.out.trans (p2.out.mono (by omega)))
          go_wp2
          obtain ⟨z0, z1, z2⟩ := set3_at (x := .int .i64 c.room) (y := .int .i64 (c.clock + 1)) (z := .slice a' n k) r0 r1 r2
          refine bodyPost_ret (v := .tuple #[.int .i64 G, .agg #[.int .i64 c.room, .int .i64 (c.clock + 1), .slice a' n k], .int .i64 0]) ?_ rfl ?_
          · exact results_tct (t := 6) (p := 7) (u := 8) (ty := TS) rfl _ _ _ ⟨w.heap.size + 1, 0, none⟩ _ (by rfl) (load_sh _ _ _ _ _ z0 z1 z2)
          · refine ⟨a', k, ?_, ?_, Below.set3 HBE.out (by omega) _ _ _⟩
            · rw [E.out]
              unfold sval after
              simp only
              rw [HL2.out]
            · rw [E.out]
              exact ⟨(((p1.out.set lR5 _).set lR5 _).set lR5 _).src, fun ha => ⟨HL2.out.trans (p1.out.nil ha).1, (p1.out.nil ha).2⟩, Wf.put (fun x hx => HSW.out.wf x (mem_drop.1 hx).1) (HGD.out.2.2.2.2.2.2.1.drop G) _ hb0 hb1⟩
        · have hgo : goes c blk = -1 := by unfold goes; rw [if_neg (fun h => hfull h.2)]
          have hdr : drop (-1) c.held = c.held := drop_none _ _ (fun x hx => by have := (HGD.out.2.2.2.2.2.1 x hx).1; omega)
          rw [hgo, hdr] at E
          rw [hf] at hlook
          simp only [Option.getD_none, Option.isSome_none, hval, zeroH] at hlook
          clear hf hgo hdr
          obtain ⟨W3, hW3⟩ : ∃ W3, W2.alloc (hobj zeroH) = W3 := ⟨_, rfl⟩
          have hz3 : W3.heap.size = W2.heap.size + 1 := by rw [← hW3, size_alloc']
          have hX3 : Bx W3 w.heap.size c.room c.clock a c.held.length cap := by rw [← hW3]; exact ⟨cellAl HX2.out.x0 _, cellAl HX2.out.x1 _, cellAl HX2.out.x2 _⟩
          have hR3 : Rz W3 (w.heap.size + 1) := by rw [← hW3]; exact HR2.out.kept (Below.heap_alloc _ _ _ lR2)
          have hD3 : DeskW W3 b c.held.length c.held := by rw [← hW3]; exact HDK.out.alloc _
          have HB3 := Lib.hid (show Below w.heap.size w W3 by rw [← hW3]; exact HB2.out.alloc (by omega) _)
          have hbl := HDK.out.lt
          have hbb := HBB.out
          have HUK := Lib.hid (used_kept W3 b c.held.length c.held c a cap blk txt w.heap.size (w.heap.size + 1) (w.heap.size + 2) hD3 (by omega) (by omega) HGD.out.2.2.1 (by have := HGD.out.2.2.2.1; unfold MaxC at this ⊢; omega) hblk hb1 (by omega) (by omega) (by omega) hX3 hR3 W3 (Lib.hid (Below.refl _ _)))
          obtain ⟨y0, y1, y2⟩ := hX3
          have lR3 : w.heap.size + 1 < W3.heap.size := by omega
          clear hR3 hz3 hbl hbb
          have hlen3 : (Builtin.len_ #[TD] 3 #[.map (some b)]).run Try.prog (W2.alloc (.cells #[.int .i64 0, .int .i64 0, .string ⟨#[]⟩] TH)) = .ok (.int .i64 c.held.length) (W2.alloc (.cells #[.int .i64 0, .int .i64 0, .string ⟨#[]⟩] TH)) := (HDK.out.alloc _).len _
          have y0' : (W2.alloc (.cells #[.int .i64 0, .int .i64 0, .string ⟨#[]⟩] TH)).cell? ⟨w.heap.size, 0, none⟩ = some (.int .i64 c.room) := cellAl HX2.out.x0 _
          have y1' : (W2.alloc (.cells #[.int .i64 0, .int .i64 0, .string ⟨#[]⟩] TH)).cell? ⟨w.heap.size, 1, none⟩ = some (.int .i64 c.clock) := cellAl HX2.out.x1 _
          have y2' : (W2.alloc (.cells #[.int .i64 0, .int .i64 0, .string ⟨#[]⟩] TH)).cell? ⟨w.heap.size, 2, none⟩ = some (.slice a c.held.length cap) := cellAl HX2.out.x2 _
          have HW3 := Lib.hid hW3
          clear hW3
          clear hD3
          have HFU := hfull
          go_wp2_with fail
          rw [show W2.alloc (.cells #[.int .i64 0, .int .i64 0, .string ⟨#[]⟩] TH) = W3 from HW3.out]
          clear hlen3 y0' y1' y2'
          refine HUK.out.mono ?_
          rintro e w28 ⟨a', n, k, rfl, p1, p2, p3, p4, p5⟩
          obtain ⟨r0, r1, r2, f0, f1, f2⟩ := p4.out
          have HL2 := Lib.hid p1.out.len
          have HBE := Lib.hid (HB3.out.trans (p2.out.mono (by omega)))
          go_wp2
          obtain ⟨z0, z1, z2⟩ := set3_at (x := .int .i64 c.room) (y := .int .i64 (c.clock + 1)) (z := .slice a' n k) r0 r1 r2
          refine bodyPost_ret (v := .tuple #[.int .i64 (-1), .agg #[.int .i64 c.room, .int .i64 (c.clock + 1), .slice a' n k], .int .i64 0]) ?_ rfl ?_
          · exact results_tct (t := 6) (p := 7) (u := 8) (ty := TS) rfl _ _ _ ⟨w.heap.size + 1, 0, none⟩ _ (by rfl) (load_sh _ _ _ _ _ z0 z1 z2)
          · refine ⟨a', k, ?_, ?_, Below.set3 HBE.out (by omega) _ _ _⟩
            · rw [E.out]
              unfold sval after
              simp only
              rw [HL2.out]
            · rw [E.out]
              exact ⟨(((p1.out.set lR3 _).set lR3 _).set lR3 _).src, fun ha => ⟨HL2.out.trans (p1.out.nil ha).1, (p1.out.nil ha).2⟩, HSW.out.wf.put HGD.out.2.2.2.2.2.2.1 _ hb0 hb1⟩
      · have hgo : goes c blk = -1 := by unfold goes; rw [hf]; simp
        have hdr : drop (-1) c.held = c.held := drop_none _ _ (fun x hx => by have := (HGD.out.2.2.2.2.2.1 x hx).1; omega)
        rw [hgo, hdr] at E
        rw [hf] at hlook
        simp only [Option.getD_some, Option.isSome_some, hval] at hlook
        clear hf hgo hdr
        obtain ⟨W3, hW3⟩ : ∃ W3, W2.alloc (hobj h) = W3 := ⟨_, rfl⟩
        have hz3 : W3.heap.size = W2.heap.size + 1 := by rw [← hW3, size_alloc']
        have hX3 : Bx W3 w.heap.size c.room c.clock a c.held.length cap := by rw [← hW3]; exact ⟨cellAl HX2.out.x0 _, cellAl HX2.out.x1 _, cellAl HX2.out.x2 _⟩
        have hR3 : Rz W3 (w.heap.size + 1) := by rw [← hW3]; exact HR2.out.kept (Below.heap_alloc _ _ _ lR2)
        have hD3 : DeskW W3 b c.held.length c.held := by rw [← hW3]; exact HDK.out.alloc _
        have HB3 := Lib.hid (show Below w.heap.size w W3 by rw [← hW3]; exact HB2.out.alloc (by omega) _)
        have hbl := HDK.out.lt
        have hbb := HBB.out
        have HUK := Lib.hid (used_kept W3 b c.held.length c.held c a cap blk txt w.heap.size (w.heap.size + 1) (w.heap.size + 2) hD3 (by omega) (by omega) HGD.out.2.2.1 (by have := HGD.out.2.2.2.1; unfold MaxC at this ⊢; omega) hblk hb1 (by omega) (by omega) (by omega) hX3 hR3 W3 (Lib.hid (Below.refl _ _)))
        obtain ⟨y0, y1, y2⟩ := hX3
        have lR3 : w.heap.size + 1 < W3.heap.size := by omega
        clear hR3 hD3 hz3 hbl hbb
        go_wp2_with fail
        refine HUK.out.mono ?_
        rintro e w28 ⟨a', n, k, rfl, p1, p2, p3, p4, p5⟩
        obtain ⟨r0, r1, r2, f0, f1, f2⟩ := p4.out
        have HL2 := Lib.hid p1.out.len
        have HBE := Lib.hid (HB3.out.trans (p2.out.mono (by omega)))
        go_wp2
        obtain ⟨z0, z1, z2⟩ := set3_at (x := .int .i64 c.room) (y := .int .i64 (c.clock + 1)) (z := .slice a' n k) r0 r1 r2
        refine bodyPost_ret (v := .tuple #[.int .i64 (-1), .agg #[.int .i64 c.room, .int .i64 (c.clock + 1), .slice a' n k], .int .i64 0]) ?_ rfl ?_
        · exact results_tct (t := 6) (p := 7) (u := 8) (ty := TS) rfl _ _ _ ⟨w.heap.size + 1, 0, none⟩ _ (by rfl) (load_sh _ _ _ _ _ z0 z1 z2)
        · refine ⟨a', k, ?_, ?_, Below.set3 HBE.out (by omega) _ _ _⟩
          · rw [E.out]
            unfold sval after
            simp only
            rw [HL2.out]
          · rw [E.out]
            exact ⟨(((p1.out.set lR3 _).set lR3 _).set lR3 _).src, fun ha => ⟨HL2.out.trans (p1.out.nil ha).1, (p1.out.nil ha).2⟩, HSW.out.wf.put HGD.out.2.2.2.2.2.2.1 _ hb0 hb1⟩
  · have E := Lib.hid (show keep c blk txt = (0, zero, 1) by unfold keep; rw [if_neg hr])
    have hrf : right c = false ∨ blk < 0 := by
      by_cases h : right c = true
      · right
        have : ¬ 0 ≤ blk := fun h2 => hr ⟨h, h2⟩
        omega
      · left; simpa using h
    clear hr
    rcases hrf with hrf | hrf
    · rw [hrf]
      clear hrf
      go_wp2
      obtain ⟨z0, z1, z2⟩ := set3_at (x := .int .i64 0) (y := .int .i64 0) (z := .slice none 0 0) r0 r1 r2
      refine bodyPost_ret (v := .tuple #[.int .i64 0, .agg #[.int .i64 0, .int .i64 0, .slice none 0 0], .int .i64 1]) ?_ rfl ?_
      · exact results_tct (t := 6) (p := 7) (u := 8) (ty := TS) rfl _ _ _ ⟨w.heap.size + 1, 0, none⟩ _ (by rfl) (load_sh _ _ _ _ _ z0 z1 z2)
      · exact ⟨none, 0, by rw [E.out]; rfl, by rw [E.out]; exact ShW.zero _, Below.set3 HBW.out (by omega) _ _ _⟩
    · rcases hrc : right c with _ | _
      all_goals
        go_wp2
        obtain ⟨z0, z1, z2⟩ := set3_at (x := .int .i64 0) (y := .int .i64 0) (z := .slice none 0 0) r0 r1 r2
        refine bodyPost_ret (v := .tuple #[.int .i64 0, .agg #[.int .i64 0, .int .i64 0, .slice none 0 0], .int .i64 1]) ?_ rfl ?_
        · exact results_tct (t := 6) (p := 7) (u := 8) (ty := TS) rfl _ _ _ ⟨w.heap.size + 1, 0, none⟩ _ (by rfl) (load_sh _ _ _ _ _ z0 z1 z2)
        · exact ⟨none, 0, by rw [E.out]; rfl, by rw [E.out]; exact ShW.zero _, Below.set3 HBW.out (by omega) _ _ _⟩
end Cache
end Go.Proofs.Ytpkhafijmbgcnaa
