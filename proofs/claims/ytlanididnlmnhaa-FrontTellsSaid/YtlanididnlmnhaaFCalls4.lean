/- Contracts of layer 5 (front), fourth part: tell. -/
import Derived.Test.YtlanididnlmnhaaFCalls3
namespace Go.Proofs.Ytlanididnlmnhaa
namespace Front
open Go.RowKit
open Kit (bval)
set_option linter.unusedVariables false

abbrev ival (n : Nat) : Value := .int .i64 (n : Int)
theorem ival_one (l : List Nat) : ∀ u ∈ l.map ival, u.oneCell' = true := by
  intro u hu
  obtain ⟨x, _, rfl⟩ := List.mem_map.1 hu
  rfl
theorem one_int : Kit.One Try.prog 22 3 8 := ⟨Try.underlying22, .int .i64 0, by kernel_rfl, rfl⟩

theorem cell_grown {w w' : World} {row : Option Nat} {p : Addr} {v : Value} (hg : w.grownBy w' row) (hc : w.cell? p = some v) (h : some p.block ≠ row) : w'.cell? p = some v := by
  have e := hg.block p.block (block_lt_of_cell hc) h
  rw [World.cell?_of_block (w := w) (a := p) e]; exact hc
theorem frozen_grown {w w' : World} {row : Option Nat} {p : Addr} (hg : w.grownBy w' row) (hp : p.block < w.heap.size) (h : some p.block ≠ row) : w'.frozen? p = w.frozen? p := by
  have e := hg.block p.block hp h
  rw [World.frozen?_of_block (w := w) (a := p) e]

theorem own_grown {w w' : World} {B : Nat} {e : TypeId} {a : Option Addr} {n c g : Nat} {xs : List Value} (h : Kit.Own w B e a n c xs) (hb : w.grownBy w' (some g)) (hg : g < B) : Kit.Own w' B e a n c xs := by
  obtain ⟨h1, h2⟩ := h
  refine ⟨h1, ?_⟩
  rcases h2 with h2 | ⟨g', cap, cur, hv, hbg, hgg, r⟩
  · exact .inl h2
  · refine .inr ⟨g', cap, cur, hv, hbg, ?_, r⟩
    have hlt : g' < w.heap.size := by
      rcases Nat.lt_or_ge g' w.heap.size with hlt | hge
      · exact hlt
      · rw [Array.getElem?_eq_none hge] at hgg; cases hgg
    rw [hb.block g' hlt (by intro e; injection e with e; omega), hgg]
theorem own_set {w : World} {B : Nat} {e : TypeId} {a : Option Addr} {n c : Nat} {xs : List Value} (h : Kit.Own w B e a n c xs) (g j : Nat) (v : Value) (hg : g < B) : Kit.Own (w.setCell ⟨g, j, none⟩ v) B e a n c xs :=
  own_grown h (grown_set w g j v) hg

/-- What tells: an alphabet's bytes in one block, the places told in another. -/
structure Tel (w : World) (b g n cp B : Nat) (l : T) (ps : List Nat) : Prop where
  byt : Byt w g l
  len : l.length = n
  ncp : n ≤ cp
  cpm : cp ≤ maxLen
  gB : g < B
  bB : b < B
  ne : g ≠ b
  BB : B ≤ w.heap.size
  bytes : w.cell? ⟨b, 0, none⟩ = some (.slice (some ⟨g, 0, none⟩) n cp)
  places : ∃ a c, Kit.Own w B 3 a ps.length c (ps.map ival) ∧ w.cell? ⟨b, 1, none⟩ = some (.slice a ps.length c)
  free : w.frozen? ⟨b, 1, none⟩ = false

set_option maxRecDepth 100000 in
set_option maxHeartbeats 1000000 in
theorem tell_any (w : World) (b g n cp B D : Nat) (l : T) (ps : List Nat) (x : UInt8) (h : Tel w b g n cp B l ps) (hps : ps.length < 1000000) (hDg : D ≤ g) (hDb : D ≤ b) :
    Calls Try.prog 27 #[.pointer (some ⟨b, 0, none⟩), .int .u8 (x.toNat : Int)] w fun e w' =>
      (¬ x ∈ l ∧ e = .returned (.bool false) ∧ w = w') ∨ (x ∈ l ∧ e = .returned (.bool true) ∧ Tel w' b g n cp B (mtf l x) (ps ++ [l.idxOf x]) ∧ Below D w w') := by
  have H := Lib.hid h
  have hc0 := h.bytes
  have hlen := h.len
  by_cases hx : x ∈ l
  · have hp : plcI l x = (l.idxOf x : Int) := by unfold plcI; rw [if_pos hx]
    have hlt := List.idxOf_lt_length_of_mem hx
    obtain ⟨k, hk⟩ : ∃ k, l.idxOf x = k := ⟨_, rfl⟩
    rw [hk] at hp hlt
    have hP := Lib.hid hp
    have HK := Lib.hid hk
    have HX := Lib.hid hx
    have hkn : k < n := by omega
    obtain ⟨a, c, hown, hc1⟩ := h.places
    have hbs : b < w.heap.size := by have := h.bB; have := h.BB; omega
    have hgs := h.byt.1
    obtain ⟨a1, c1, w1, hr1, ho1, hg1⟩ := Kit.Own.app (ty := 22) (w := w.alloc (.cells #[.int .i64 (k : Int)] 3)) one_int (hown.alloc _) (some ⟨w.heap.size, 0, none⟩) 1 1 [ival k] (Kit.new_one w _ 3) rfl (fun h => by cases h) (fun u hu => by rw [List.mem_singleton] at hu; subst hu; rfl) (by unfold maxLen; omega) (by omega) (by have := h.BB; simp; omega)
    have hnb : ∀ q, q < B → some q ≠ (Value.slice a ps.length c).ownBlock := fun q hq e => by have := (hown.block) q e.symm; omega
    have hcb1 : w1.cell? ⟨b, 1, none⟩ = some (.slice a ps.length c) := cell_grown hg1 (cell_grown (World.grownBy_alloc w _ none) hc1 (by simp)) (hnb b h.bB)
    have hcb0 : w1.cell? ⟨b, 0, none⟩ = some (.slice (some ⟨g, 0, none⟩) n cp) := cell_grown hg1 (cell_grown (World.grownBy_alloc w _ none) h.bytes (by simp)) (hnb b h.bB)
    have hfb : w1.frozen? ⟨b, 1, none⟩ = false := by
      rw [frozen_grown hg1 (by simp; omega) (hnb b h.bB), frozen_grown (World.grownBy_alloc w _ none) (by exact hbs) (by simp)]; exact h.free
    have hby1 : Byt w1 g l := (h.byt.grown (World.grownBy_alloc w _ none) (by simp)).grown hg1 (hnb g h.gB)
    have hby2 : Byt (w1.setCell ⟨b, 1, none⟩ (.slice a1 (ps.length + 1) c1)) g l := hby1.grown (grown_set w1 b 1 _) (fun e => h.ne (by injection e))
    have hcg0 : (w1.setCell ⟨b, 1, none⟩ (.slice a1 (ps.length + 1) c1)).cell? ⟨b, 0, none⟩ = some (.slice (some ⟨g, 0, none⟩) n cp) := by
      rw [World.cell?_setCell_other _ _ _ _ (by intro e; injection e with _ e2 _; omega)]; exact hcb0
    have hcg1 : (w1.setCell ⟨b, 1, none⟩ (.slice a1 (ps.length + 1) c1)).cell? ⟨b, 1, none⟩ = some (.slice a1 (ps.length + 1) c1) := World.cell?_setCell_same _ _ _ hcb1
    have hfg : (w1.setCell ⟨b, 1, none⟩ (.slice a1 (ps.length + 1) c1)).frozen? ⟨b, 1, none⟩ = false := by rw [World.frozen?_setCell]; exact hfb
    have hsz1 : w.heap.size ≤ w1.heap.size := by have := hg1.size; simp at this; omega
    have hbel : Below D w (w1.setCell ⟨b, 1, none⟩ (.slice a1 (ps.length + 1) c1)) := by
      refine Below.trans ((Below.refl _ _).alloc (by omega) _) (Below.trans ((Below.refl _ _).grown hg1 (by simp; omega) (fun q hq => by have := hown.block q hq; have := h.gB; omega)) (below_of_grown (grown_set w1 b 1 _) hDb (by omega)))
    have hob : ∀ q, (Value.slice a1 (ps.length + 1) c1).ownBlock = some q → B ≤ q := ho1.block
    have HO := Lib.hid ho1
    have HG := Lib.hid hcg0
    have HG1 := Lib.hid hcg1
    have HFG := Lib.hid hfg
    have HBEL := Lib.hid hbel
    have HBY := Lib.hid hby2
    have HOB := Lib.hid hob
    clear ho1 hcg0 hcg1 hfg hbel hby2 hby1 hob hg1 hnb hown hlen hlt hp hk hx h
    go_enter Try.func27, Try.ntmps27
    go_wp2_with fail
    refine (index_any _ g n cp l x H.out.len H.out.byt).mono ?_
    rintro e w2 ⟨rfl, rfl⟩
    rw [hP.out]
    go_wp2_with (at_builtin; refine Kit.app_eq rfl (.tmp 19) (.tmp 21) 22 rfl rfl rfl hr1 ?_)
    refine (take_any _ g n cp l k H.out.len hkn H.out.ncp H.out.cpm HBY.out).mono ?_
    rintro e w3 ⟨rfl, hby3, hg3⟩
    have HB3 := Lib.hid hby3
    have HG3 := Lib.hid hg3
    clear hby3 hg3
    go_wp2
    go_ret
    have hne : some b ≠ some g := fun e => H.out.ne (by injection e with e; exact e.symm)
    have hs3 := HG3.out.size
    have hs2 : (w1.setCell ⟨b, 1, none⟩ (.slice a1 (ps.length + 1) c1)).heap.size = w1.heap.size := by simp [World.setCell]
    refine .inr ⟨HX.out, rfl, ?_, HBEL.out.trans (below_of_grown HG3.out hDg (by have := H.out.BB; have := H.out.gB; omega))⟩
    refine { byt := ?_, len := ?_, ncp := H.out.ncp, cpm := H.out.cpm, gB := H.out.gB, bB := H.out.bB, ne := H.out.ne, BB := ?_, bytes := ?_, places := ?_, free := ?_ }
    · rw [mtf_bring l x HX.out, HK.out]; exact HB3.out
    · rw [length_mtf HX.out]; exact H.out.len
    · have := H.out.BB; omega
    · exact cell_grown HG3.out HG.out hne
    · rw [List.length_append, List.map_append, HK.out]
      exact ⟨a1, c1, own_grown (own_set HO.out b 1 _ H.out.bB) HG3.out H.out.gB, cell_grown HG3.out HG1.out hne⟩
    · rw [frozen_grown HG3.out (by rw [hs2]; show b < _; omega) hne]; exact HFG.out
  · have hp : plcI l x = -1 := by unfold plcI; rw [if_neg hx]
    have hP := Lib.hid hp
    have HX := Lib.hid hx
    clear h hlen hp hx
    go_enter Try.func27, Try.ntmps27
    go_wp2_with fail
    refine (index_any _ g n cp l x H.out.len H.out.byt).mono ?_
    rintro e w1 ⟨rfl, rfl⟩
    rw [hP.out]
    go_wp2
    go_ret
    exact .inl ⟨HX.out, rfl, rfl⟩
end Front
end Go.Proofs.Ytlanididnlmnhaa
