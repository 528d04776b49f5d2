/- Contracts of chapter 4's functions: Pack. -/
import Derived.Test.YthdpcjahficlnaaRCalls
namespace Go.Proofs.Ythdpcjahficlnaa
namespace Rle
open Go.RowKit Go.Shelf
set_option linter.unusedVariables false
attribute [local go_sem] Oper.semAt_some

theorem pk1_short (x : T) (h : x.length < 4) : pk1 x = x := by unfold pk1; rw [if_pos h]
theorem pk1_long (x : T) (h : ¬ x.length < 4) : pk1 x = x.take 4 ++ [UInt8.ofNat (x.length - 4)] := by unfold pk1; rw [if_neg h]
theorem pack_len (pre : List T) : (pre.flatMap pk1).length = lens pre := by
  unfold lens
  rw [List.length_flatMap]
  congr 1
  exact List.map_congr_left fun p _ => pk1_length p
theorem not_cells {o : Obj} (h : o.isCells = false) : ∀ t, ∀ c fz, o ≠ .cells c t fz := by
  rintro t c fz rfl
  cases h
theorem Bld.own1 {A C : World} {B b k : Nat} {l : T} {v : Value} {t : TypeId} (h : Bld A B b l) (hbx : Boxed A k t v) (h1 : t ≠ TB) (h2 : t ≠ TY) (ho : Own1 k A C) : Bld C B b l := by
  rcases ho with ⟨n, rfl⟩ | ⟨u, rfl⟩
  · exact h.kept (row := none) ⟨rfl, rfl, rfl, Nat.le_refl _, fun _ _ _ => rfl⟩ (fun r e => by cases e)
  · refine h.kept (row := some k) (grownBy_setCell' A k u) (fun r e => ?_)
    cases e
    refine ⟨_, hbx, ?_, ?_⟩
    · intro c fz e; injection e with _ e2 _; exact h1 e2
    · intro c fz e; injection e with _ e2 _; exact h2 e2
theorem box_own1 {A C : World} {k : Nat} {v : Value} {t : TypeId} (hbx : Boxed A k t v) (ho : Own1 k A C) : ∃ u, Boxed C k t u := by
  rcases ho with ⟨n, rfl⟩ | ⟨u, rfl⟩
  · exact ⟨v, hbx⟩
  · exact ⟨u, hbx.set u⟩
theorem box_put {A : World} {k l : Nat} {v : Value} {t : TypeId} {o : Obj} (o' : Obj) (hbx : Boxed A k t v) (hl : A.heap[l]? = some o) (ho : o.isCells = false) : Boxed (A.putObj l o') k t v := by
  refine (World.putObj_heap_other ?_).trans hbx
  rintro rfl
  rw [show A.heap[k]? = _ from hbx] at hl
  obtain rfl := Option.some.inj hl
  cases ho
theorem Bld.put {A : World} {B b l : Nat} {m : T} {o : Obj} (o' : Obj) (h : Bld A B b m) (hl : A.heap[l]? = some o) (ho : o.isCells = false) : Bld (A.putObj l o') B b m :=
  h.kept (grownBy_putObj' A l o') (fun r e => by cases e; exact ⟨o, hl, not_cells ho _, not_cells ho _⟩)
theorem Bld.alloc {A : World} {B b : Nat} {m : T} (h : Bld A B b m) (o : Obj) : Bld (A.alloc o) B b m :=
  h.kept (World.grownBy_alloc A o none) (fun r e => by cases e)

set_option maxRecDepth 100000 in
set_option maxHeartbeats 2000000 in
theorem Pack_any (s : ByteArray) (hs : s.size ≤ 100000) (w : World) :
    Calls Try.prog 9 #[.string s] w fun e w' => e = .returned (.string (bs (pack s.data.toList))) ∧ Below w.heap.size w w' := by
  refine (callsIn_wide (n := 3)).1 ?_
  refine callsIn_of_wp_marks Try.func9 rfl trivial ?_ rfl
  simp only [Try.ntmps9, List.size_toArray, List.length_cons, List.length_nil, Nat.reduceAdd, Nat.reduceSub, Array.replicate_succ, Array.replicate_zero, List.push_toArray, List.append_toArray, List.nil_append, List.cons_append]
  gi_wp2_with fail
  refine ⟨trivial, (callsIn_wide.2 (pieces_any s _)).mono ?_⟩
  rintro e w1 ⟨rfl, rfl⟩
  gi_wp2
  have hv := (Bld.new w).alloc (.cells #[.string s] 9)
  have hbox := Boxed.new (w.alloc (.cells #[.pointer none, .slice none 0 0] 41)) 9 (.string s)
  obtain ⟨W0, hW0⟩ : ∃ W0, (w.alloc (.cells #[.pointer none, .slice none 0 0] 41)).alloc (.cells #[.string s] 9) = W0 := ⟨_, rfl⟩
  have hsz : W0.heap.size = w.heap.size + 2 := by rw [← hW0]; simp
  have hB0 : Below w.heap.size w W0 := by rw [← hW0]; exact ((Below.refl _ w).alloc (Nat.le_refl _) _).alloc (by simp) _
  rw [hW0] at hv hbox ⊢
  rw [World.size_alloc] at hbox
  have HV := Lib.hid hv
  have HBOX := Lib.hid hbox
  have HB0 := Lib.hid hB0
  have hLen := (Len_bounds s.data.toList).1
  rw [len_text] at hLen
  have hLs : Len s.data.toList ≤ 125000 := by omega
  have hn : w.heap.size ≠ w.heap.size + 1 := by omega
  clear hv hbox hB0 hW0 hLen
  refine range_law (gf := 21) (lb := #[.pointer (some ⟨w.heap.size + 1, 0, none⟩)]) rfl (enters_of Try.func21 (by kernel_rfl) rfl) (fun p : T => .string (bs p)) (w.heap.size + 1) (by omega) (pcs s.data.toList)
    (fun W hW => pieces_seq _ s hs W ((hW.block _ (by omega)).trans HBOX.out))
    (fun pre W => Bld W w.heap.size w.heap.size (pre.flatMap pk1) ∧ (∃ v, Boxed W (w.heap.size + 1) 9 v) ∧ Below w.heap.size w W ∧ W0.heap.size ≤ W.heap.size)
    (fun _ _ _ => False)
    (fun pre W l o o' hl ho hc hi => ⟨hi.1.put o' ho hc, ⟨hi.2.1.choose, box_put o' hi.2.1.choose_spec ho hc⟩, below_put o' hi.2.2.1 ho (by omega) (by omega), by rw [World.putObj]; simpa using hi.2.2.2⟩)
    (fun _ _ _ _ _ _ _ _ _ h => h)
    (fun pre A B hi ho => ⟨hi.1.own1 hi.2.1.choose_spec (by decide) (by decide) ho, box_own1 hi.2.1.choose_spec ho, below_own1 hi.2.2.1 ho (by omega), Nat.le_trans hi.2.2.2 ho.keeps.size⟩)
    (fun o o' => ⟨(HV.out.alloc o).alloc o', ⟨_, (HBOX.out.alloc o).alloc o'⟩, (HB0.out.alloc (by omega) o).alloc (by simp; omega) o', by simp; omega⟩)
    (fun x => { tmps := #[.string s, undef, .string ⟨#[]⟩, .pointer (some ⟨w.heap.size, 0, none⟩), .string (bs x), .string s, .func (.func 21) #[] #[.pointer (some ⟨w.heap.size + 1, 0, none⟩)], .string (bs x), undef, undef, undef, undef, undef, undef, undef, undef, undef, undef, undef, undef, undef, undef, undef], defers := [] }) ?assign ?body ?done ?stop
  case assign =>
    intro l x W K hK
    gi_wp2
    exact hK
  case body =>
    rintro l pre x W hsW ⟨hv, ⟨u, hbx1⟩, hB, hz⟩ hpre
    obtain ⟨f1, f2, f3, f4⟩ := piece_facts hpre
    have hbx := bs_size x
    have hpl := pack_len pre
    have hll : (pre.flatMap pk1).length ≤ 125000 := by rw [hpl]; omega
    have hone : (pre ++ [x]).flatMap pk1 = pre.flatMap pk1 ++ pk1 x := by simp
    obtain ⟨M, hM, hM1, hM2, hM3⟩ := Kit.cut_len x.length 4 4 rfl
    have hMm : min (x.length : Int) 4 = (M : Int) := by have := hM3.out; omega
    have hsl : (bs x).extract 0 M = bs (x.take M) := bs_take x M
    have hts : (bs (x.take M)).size ≤ 4 := by rw [bs_size, List.length_take]; omega
    have HV := Lib.hid hv
    have HBX := Lib.hid hbx1
    have HSL := Lib.hid hsl
    have HONE := Lib.hid hone
    have HLL := Lib.hid hll
    clear f3 f4 hv hbx1 hsl hone hpl hll
    by_cases h4 : x.length < 4
    · gi_wp2_with fail
      rw [HSL.out]
      refine ⟨trivial, (CallsIn.inRound l (callsIn_wide.2 (writeString_any w.heap.size w.heap.size _ (bs (x.take M)) W HV.out (by have := HLL.out; omega) (by omega)))).mono ?_⟩
      rintro e w1 ⟨rfl, h1, hb1, hk1, hz1⟩
      gi_wp2
      refine ⟨HV.out.keeps hk1 hz1, boxed_kept hk1 HBX.out (by omega) (by decide), ?_, ⟨u, (boxed_kept hk1 HBX.out (by omega) (by decide)).trans HBX.out⟩, hB.trans hb1, by omega⟩
      rw [HONE.out, pk1_short x h4]
      rw [bs_list, List.take_of_length_le (by have := hM3.out; omega)] at h1
      exact h1
    · have hcb : ((x.length : Int) - 4) = ((UInt8.ofNat (x.length - 4)).toNat : Int) := by rw [UInt8.toNat_ofNat']; omega
      have HCB := Lib.hid hcb
      clear hcb
      gi_wp2_with fail
      rw [HSL.out]
      refine ⟨trivial, (CallsIn.inRound l (callsIn_wide.2 (writeString_any w.heap.size w.heap.size _ (bs (x.take M)) W HV.out (by have := HLL.out; omega) (by omega)))).mono ?_⟩
      rintro e w1 ⟨rfl, h1, hb1, hk1, hz1⟩
      have hc1 := boxed_kept hk1 HBX.out (by omega) (by decide)
      have hl1 : ((pre.flatMap pk1) ++ (bs (x.take M)).data.toList).length + 1 ≤ 1000000000 := by rw [List.length_append, len_text]; have := HLL.out; omega
      have H1 := Lib.hid h1
      have HC1 := Lib.hid hc1
      have HL1 := Lib.hid hl1
      clear h1 hc1 hl1
      gi_wp2_with fail
      rw [HCB.out]
      refine ⟨trivial, (CallsIn.inRound l (callsIn_wide.2 (writeByte_any w.heap.size w.heap.size _ (UInt8.ofNat (x.length - 4)) w1 H1.out HL1.out (by omega)))).mono ?_⟩
      rintro e w2 ⟨rfl, h2, hb2, hk2, hz2⟩
      have hc2 : w2.heap[w.heap.size + 1]? = W.heap[w.heap.size + 1]? := (boxed_kept hk2 (HC1.out.trans HBX.out) (by omega) (by decide)).trans HC1.out
      gi_wp2
      refine ⟨(HV.out.keeps hk1 hz1).trans (H1.out.keeps hk2 hz2), hc2, ?_, ⟨u, hc2.trans HBX.out⟩, (hB.trans hb1).trans hb2, by omega⟩
      rw [HONE.out, pk1_long x h4]
      rw [bs_list, show M = 4 from by have := hM3.out; omega, List.append_assoc] at h2
      exact h2
  case done =>
    rintro D W hD ⟨hv, ⟨u, hbx1⟩, hB, hz⟩ hK
    have HV := Lib.hid hv
    clear hv
    gi_wp2_with fail
    refine ⟨trivial, (callsIn_wide.2 (string_any w.heap.size w.heap.size _ W HV.out (by omega))).mono ?_⟩
    rintro e w2 ⟨rfl, hb2, hk2⟩
    have hK2 := hk2 D _ hK (by intro e; injection e with e; omega) (by intro c fz e; cases e)
    gi_wp2
    refine ⟨by simp, .inl ⟨_, _, rfl, run_takeDeferred hK2, ?_⟩⟩
    refine ⟨_, results_tmp rfl _ _ _, ?_, below_put _ (hB.trans hb2) hK2 (by omega) (by have := (hB.trans hb2).size; omega)⟩
    rw [← bs_eq]
    rfl
  case stop =>
    rintro D c pre W _ _ h _
    exact h.elim
end Rle
end Go.Proofs.Ythdpcjahficlnaa
