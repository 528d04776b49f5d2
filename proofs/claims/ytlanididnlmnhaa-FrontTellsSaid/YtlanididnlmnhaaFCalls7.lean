/- Contracts of layer 5 (front), seventh part: Back. -/
import Derived.Test.YtlanididnlmnhaaFCalls6
import Derived.Laws.MakeOwn
namespace Go.Proofs.Ytlanididnlmnhaa
namespace Front
open Go.RowKit
open Kit (bval)
set_option linter.unusedVariables false

abbrev inum (x : Int) : Value := .int .i64 x
/-- What Back answers, the program's and the document's. -/
def BackPost (a : T) (l : List Int) (w : World) (e : Ending) (w' : World) : Prop :=
  e = .returned (.tuple #[.string ⟨(resB a l).toArray⟩, .int .i64 (codeB a l)]) ∧ Below w.heap.size w w'
theorem src_at {w : World} {p : Option Addr} {l : List Int} (h : Kit.Src w p (l.map inum)) (k : Nat) (hk : k < l.length) : ∃ b off, p = some ⟨b, off, none⟩ ∧ b < w.heap.size ∧ w.cell? ⟨b, off + k, none⟩ = some (.int .i64 l[k]) := by
  obtain ⟨b, off, ha, hc⟩ := h k (inum l[k]) (by rw [List.getElem?_map, List.getElem?_eq_getElem hk]; rfl)
  exact ⟨b, off, ha, block_lt_of_cell hc, hc⟩
theorem one_byte : Kit.One Try.prog 40 5 1 := ⟨Try.underlying40, .int .u8 0, by kernel_rfl, rfl⟩
theorem codeB_out (a : T) (l : List Int) (k : Nat) (hk : k < l.length) (hr : right a = true) (h : ¬ (0 ≤ l[k] ∧ l[k] < (a.length : Int))) : codeB a l = 5 := by
  refine codeB_none a l hr ?_
  rw [Bool.eq_false_iff]
  intro h2
  exact h ((inR_iff _ _).1 h2 _ (List.getElem_mem hk))

/-- An alphabet in a cell of its own, and what is put out. -/
structure Bak (w : World) (b g n cp B : Nat) (l : T) (v : Value) (out : T) : Prop where
  byt : Byt w g l
  len : l.length = n
  ncp : n ≤ cp
  cpm : cp ≤ maxLen
  gB : g < B
  bB : b < B
  ne : g ≠ b
  BB : B ≤ w.heap.size
  bytes : w.cell? ⟨b, 0, none⟩ = some (.slice (some ⟨g, 0, none⟩) n cp)
  out : ∃ a c, v = .slice a out.length c ∧ Kit.Own w B 5 a out.length c (out.map bval)

set_option maxRecDepth 100000 in
set_option maxHeartbeats 1000000 in
theorem back_any (a : ByteArray) (ha : a.size ≤ 1000) (p : Option Addr) (c n : Nat) (l : List Int) (hl : l.length = n) (hn : n ≤ 100000) (w : World) (hsrc : Kit.Src w p (l.map inum)) :
    Calls Try.prog 20 #[.string a, .slice p n c] w (BackPost a.data.toList l w) := by
  have HSRC := Lib.hid hsrc
  clear hsrc
  go_enter Try.func20, Try.ntmps20
  go_wp2_with fail
  refine (right_any a (by unfold maxLen; omega) _).mono ?_
  rintro e w1 ⟨rfl, b1⟩
  by_cases hr : right a.data.toList = true
  · rw [hr]
    have HR := Lib.hid hr
    have HL := Lib.hid hl
    clear hr hl
    have hcv := run_bytes_of_string (P := Try.prog) w1 9 40 5 a Try.underlying9 Try.underlying40 Try.underlying5
    have hge := grownCap_ge w1 a.size 0 5
    have hle := grownCap_le_maxLen w1 a.size 0 5 (by unfold maxLen; omega)
    have hby := Byt.new w1 a (grownCap w1 a.size 0 5) 5
    obtain ⟨cp, hcp⟩ : ∃ cp, grownCap w1 a.size 0 5 = cp := ⟨_, rfl⟩
    rw [hcp] at hcv hge hle hby
    obtain ⟨wB, hB⟩ : ∃ wB, w1.drew.alloc (.cells (bytesRow a cp) 5 ((bytesRow a cp).size, (bytesRow a cp).size + 1)) = wB := ⟨_, rfl⟩
    rw [hB] at hcv hby
    have hsz2 : wB.heap.size = w1.heap.size + 1 := by
      rw [← hB]
      show (w1.heap.push _).size = _
      rw [Array.size_push]
    have hs1 := b1.size
    have hbB : Below w.heap.size w wB := by rw [← hB]; exact b1.drew.alloc hs1 _
    obtain ⟨wC, hC⟩ : ∃ wC, wC = wB.alloc (.cells #[.slice (some ⟨w1.heap.size, 0, none⟩) a.size cp] 45) := ⟨_, rfl⟩
    have hszC : wC.heap.size = w1.heap.size + 2 := by
      rw [hC]
      show (wB.heap.push _).size = _
      rw [Array.size_push]; omega
    have hbC : Below w.heap.size w wC := by rw [hC]; exact hbB.alloc (by omega) _
    have hbyC : Byt wC w1.heap.size a.data.toList := by rw [hC]; exact hby.grown (World.grownBy_alloc _ _ none) (by simp)
    have hC0 : wC.cell? ⟨w1.heap.size + 1, 0, none⟩ = some (.slice (some ⟨w1.heap.size, 0, none⟩) a.size cp) := by rw [hC, ← hsz2]; simp
    obtain ⟨i, hi, hz0, hz1, hz2⟩ := info_parts (show (Try.prog.info? 5).map (fun i => (i.zero, i.size, i.bytes)) = some (some (.int .u8 0), 1, 1) from by kernel_rfl)
    obtain ⟨wD, hmk, howD, hgD⟩ := run_make_own (P := Try.prog) (w := wC) (w1.heap.size + 2) 40 5 i _ 1 Try.underlying40 hi hz0 hz1 .i64 .i64 n (by rw [hz2]; omega) (by unfold maxLen; omega) (by omega)
    rw [hszC] at hmk howD
    have hbak : Bak wD (w1.heap.size + 1) w1.heap.size a.size cp (w1.heap.size + 2) a.data.toList (.slice (some ⟨w1.heap.size + 2, 0, none⟩) 0 n) [] := {
      byt := hbyC.grown hgD (by simp), len := len_text a, ncp := hge, cpm := hle, gB := by omega, bB := by omega, ne := by omega
      BB := by have := hgD.size; omega
      bytes := cell_grown hgD hC0 (by simp)
      out := ⟨_, _, rfl, howD⟩ }
    have hbD : Below w.heap.size w wD := hbC.trans ((Below.refl _ _).grown hgD (by omega) (fun k hk => by cases hk))
    have HBAK := Lib.hid hbak
    have HGE := Lib.hid hge
    have HLE := Lib.hid hle
    clear hbak hbyC hC0 hi hz0 hz1 hz2 howD hgD hbC hbB hby hcp hge hle
    have hbs : w1.heap.size + 1 < w1.heap.size + 2 := by omega
    subst hC
    go_wp2
    clear hmk hcv hB hszC hsz2
    go_loopw [7, 21] (fun v i wr => ∃ k : Nat, k ≤ n ∧ i = .int .i64 k ∧ RowKit.Hid (Bak wr (w1.heap.size + 1) w1.heap.size a.size cp (w1.heap.size + 2) (unf a.data.toList (nats (l.take k))) v (unp a.data.toList (nats (l.take k)))) ∧ RowKit.Hid (inR a.data.toList.length (l.take k) = true) ∧ Below w.heap.size w wr) (fun _ i _ => n - (intOf i).toNat)
    case atStart => exact ⟨0, by omega, rfl, HBAK, Lib.hid rfl, hbD⟩
    case round =>
      obtain ⟨k, hk, rfl, ht, hin, hb⟩ := hrel
      by_cases hlt : k < n
      · have hkl : k < l.length := by rw [HL.out]; exact hlt
        obtain ⟨b0, off, rfl, hbl, hcell⟩ := src_at HSRC.out k hkl
        have hcw : _ := hb.cell (p := ⟨b0, off + k, none⟩) hbl
        rw [hcell] at hcw
        have hcb := ht.out.bytes
        obtain ⟨x, hx⟩ : ∃ x, l[k] = x := ⟨_, rfl⟩
        rw [hx] at hcell hcw
        have HX := Lib.hid hx
        clear hx
        by_cases hneg : x < 0
        · have h5 := codeB_out a.data.toList l k hkl HR.out (by rw [HX.out]; omega)
          have h6 := resB_nil a.data.toList l (by rw [h5]; decide)
          have H5 := Lib.hid h5
          have H6 := Lib.hid h6
          clear h5 h6
          go_wp2
          go_ret2
          exact ⟨by rw [H5.out, H6.out]; rfl, hb⟩
        · obtain ⟨q, rfl⟩ := Int.eq_ofNat_of_zero_le (show 0 ≤ x by omega)
          by_cases hbig : q < a.size
          · have hulen : (unf a.data.toList (nats (l.take k))).length = a.size := by
              rw [unf_length _ _ (nats_lt _ _ hin.out), len_text]
            obtain ⟨y, hy⟩ : ∃ y, (unf a.data.toList (nats (l.take k))).getD q 0 = y := ⟨_, rfl⟩
            have HY := Lib.hid hy
            have HUL := Lib.hid hulen
            clear hy hulen
            go_wp2_with fail
            refine (take_any _ w1.heap.size a.size cp (unf a.data.toList (nats (l.take k))) q HUL.out (by omega) HGE.out HLE.out ht.out.byt).mono ?_
            rintro e w2 ⟨rfl, hby2, hg2⟩
            rw [HY.out]
            obtain ⟨oa, oc, rfl, hown⟩ := ht.out.out
            have hown2 := own_grown hown hg2 (by omega)
            have hz2 := hg2.size
            have hzz := ht.out.BB
            have hol : (unp a.data.toList (nats (l.take k))).length ≤ 100000 := by rw [unp_length]; unfold nats; rw [List.length_map, List.length_take]; omega
            obtain ⟨a3, c3, w3, hr3, ho3, hg3⟩ := Kit.Own.app (ty := 40) (w := w2.alloc (.cells #[.int .u8 (y.toNat : Int)] 5)) one_byte (hown2.alloc _) (some ⟨w2.heap.size, 0, none⟩) 1 1 [bval y] (Kit.new_one w2 _ 5) rfl (fun h => by cases h) (Kit.bval_one [y]) (by unfold maxLen; omega) (by omega) (by simp; omega)
            have hnb : ∀ q, q < w1.heap.size + 2 → some q ≠ (Value.slice oa (unp a.data.toList (nats (l.take k))).length oc).ownBlock := fun q hq e => by have := (hown.block) q e.symm; omega
            have hul2 : (bring (unf a.data.toList (nats (l.take k))) q).length = a.size := by rw [length_bring _ _ (by rw [HUL.out]; omega), HUL.out]
            have hz3 := hg3.size
            have hbak3 : Bak w3 (w1.heap.size + 1) w1.heap.size a.size cp (w1.heap.size + 2) (bring (unf a.data.toList (nats (l.take k))) q) (.slice a3 ((unp a.data.toList (nats (l.take k))).length + 1) c3) (unp a.data.toList (nats (l.take k)) ++ [y]) := {
              byt := (hby2.grown (World.grownBy_alloc w2 _ none) (by simp)).grown hg3 (hnb _ (by omega)), len := hul2, ncp := HGE.out, cpm := HLE.out, gB := by omega, bB := by omega, ne := by omega
              BB := by simp at hz3; omega
              bytes := cell_grown hg3 (cell_grown (World.grownBy_alloc w2 _ none) (cell_grown hg2 hcb (by intro e; injection e with e; simp at e)) (by simp)) (hnb _ (by omega))
              out := ⟨a3, c3, by rw [List.length_append]; rfl, by rw [List.length_append, List.map_append]; exact ho3⟩ }
            have hbel3 : Below w.heap.size w w3 := hb.trans ((below_of_grown hg2 hs1 (by omega)).trans (((Below.refl _ _).alloc (by omega) _).trans ((Below.refl _ _).grown hg3 (by simp; omega) (fun q hq => by have := hown.block q hq; omega))))
            have hstep : RowKit.Hid (unf a.data.toList (nats (l.take (k + 1))) = bring (unf a.data.toList (nats (l.take k))) q ∧ unp a.data.toList (nats (l.take (k + 1))) = unp a.data.toList (nats (l.take k)) ++ [y] ∧ inR a.data.toList.length (l.take (k + 1)) = true) := by
              have e : l.take (k + 1) = l.take k ++ [(q : Int)] := by rw [List.take_succ_eq_append_getElem hkl, HX.out]
              refine Lib.hid ⟨?_, ?_, ?_⟩
              · rw [e, nats_snoc, unf_snoc]; rfl
              · rw [e, nats_snoc, unp_snoc, ← HY.out]; rfl
              · rw [e, inR_snoc, hin.out, Bool.true_and, decide_eq_true_eq, len_text]; omega
            have HB3 := Lib.hid hbak3
            have HBL := Lib.hid hbel3
            clear hbak3 hbel3 ho3 hg3 hown hown2 hby2 hg2 hnb hul2 hcw hcb hol hb
            go_wp2_with (at_builtin; refine Kit.app_eq rfl (.tmp 34) (.tmp 38) 40 rfl rfl rfl hr3 ?_)
            go_roundw
            case rel =>
              refine ⟨k + 1, by omega, by go_num, ?_, Lib.hid hstep.out.2.2, HBL.out⟩
              rw [hstep.out.1, hstep.out.2.1]
              exact HB3
            case measure => simp [intOf]; omega
          · have h5 := codeB_out a.data.toList l k hkl HR.out (by rw [HX.out, len_text]; omega)
            have h6 := resB_nil a.data.toList l (by rw [h5]; decide)
            have H5 := Lib.hid h5
            have H6 := Lib.hid h6
            clear h5 h6
            go_wp2
            go_ret2
            exact ⟨by rw [H5.out, H6.out]; rfl, hb⟩
      · obtain rfl : k = n := by omega
        have hfull : l.take k = l := List.take_of_length_le (by rw [HL.out]; omega)
        rw [hfull] at ht hin
        have hc0 := codeB_ok a.data.toList l HR.out hin.out
        have hre := resB_ok a.data.toList l hc0
        have HC := Lib.hid hc0
        have HE := Lib.hid hre
        obtain ⟨oa, oc, rfl, hown⟩ := ht.out.out
        have hcv2 := hown.src.text (P := Try.prog) (src := 40) (dst := 9) (e := 5) (c := oc) rfl Try.underlying40 Try.underlying5 Try.underlying9
        clear hfull hc0 hre hown
        go_wp2
        go_ret2
        exact ⟨by rw [HC.out, HE.out]; rfl, hb⟩
  · rw [Bool.not_eq_true] at hr
    rw [hr]
    have hc := codeB_bad a.data.toList l hr
    have e1 := resB_nil a.data.toList l (by rw [hc]; decide)
    have HC := Lib.hid hc
    have HE := Lib.hid e1
    clear hc e1
    go_wp2
    go_ret2
    exact ⟨by rw [HC.out, HE.out]; rfl, b1⟩
end Front
end Go.Proofs.Ytlanididnlmnhaa
