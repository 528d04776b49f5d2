/-
  The law CacheSame of chapter 21 returns true: what is kept again, or taken again, at once, changes no order, and lets none go; blocks that are used in turn, as many as there is room for, are all kept.
  For every input: no condition.
-/
import Derived.Test.YtpkhafijmbgcnaaRows
import Derived.Test.YtpkhafijmbgcnaaDLaw2
import Derived.Test.YtpkhafijmbgcnaaSPlain
import Derived.WalkLawsBesides
import Derived.WalkSpells
import Derived.Lib.Hide
import Derived.BigQuiet
import Derived.WalkKit
import Derived.ProofKit
import Derived.OpenShut
import Derived.ShutString
import Derived.ChangeOld
import Derived.Below
import Derived.Test.YtpkhafijmbgcnaaKit
namespace Go.Proofs.Ytpkhafijmbgcnaa.cacheSame
set_option linter.unusedVariables false
open Go.RowKit
open Cache Go.Shelf
open Go.ChangeShapes Go.WideShapes Go.ChangeAt Go.RowKit
open Go.ChangeMaps (open_string shut_string)

theorem own : ownKnob Try.prog.godebug = none := by kernel_rfl
theorem laidOut : laidOutB Try.prog = true := by kernel_rfl

theorem old_cell {w w5 : World} {x y z : Value} (hb : Below (w.alloc (.cells #[x, y, z] TS)).drew.heap.size (w.alloc (.cells #[x, y, z] TS)).drew w5) : w5.heap[w.heap.size]? = some (.cells #[x, y, z] TS (0, 0)) :=
  (hb.block w.heap.size (by show _ < (w.alloc (.cells #[x, y, z] TS)).heap.size; rw [size_alloc']; exact Nat.lt_succ_self _)).trans (World.alloc_heap_new w _)
theorem zero_cell {w w5 : World} (hb : Below (w.alloc (.cells #[.int .i64 0, .int .i64 0, .slice none 0 0] TS)).drew.heap.size (w.alloc (.cells #[.int .i64 0, .int .i64 0, .slice none 0 0] TS)).drew w5) : CellSh w5 w.heap.size zero none 0 := ⟨old_cell hb, ShW.zero _⟩
/-- What the first loop holds of its world. -/
def FillAt (n m k : Nat) (w : World) (c : Sh) (ac : Option Addr) (kc : Nat) (Bc Bh : Nat) (wr : World) : Prop := ∃ h a q, CellSh wr Bc c ac kc ∧ CellSh wr Bh h a q ∧ Fill (n : Int) m k ⟨#[122]⟩ h ∧ Below w.heap.size w wr
/-- What the second loop holds of its world. -/
def TurnAt (n m : Nat) (w : World) (c : Sh) (ac : Option Addr) (kc : Nat) (Bc Bh : Nat) (wr : World) : Prop := ∃ h a q, CellSh wr Bc c ac kc ∧ CellSh wr Bh h a q ∧ Turn (n : Int) n m ⟨#[122]⟩ h ∧ Below w.heap.size w wr
set_option linter.unusedSimpArgs false
set_option maxRecDepth 100000 in
set_option maxHeartbeats 4000000 in
theorem walk (a0 : Int) (a1 : Option Addr) (len1 cap1 : Nat) (z1 : Nat → Int × Int) (a2 : Int) (a3 : Int) (w : World) (w0 : (Lit.int .i64 a0).wf = true) (w1 : Kit.IsPairs .i64 w a1 len1 cap1 z1) (w2 : (Lit.int .i64 a2).wf = true) (w3 : (Lit.int .i64 a3).wf = true) :
    Calls Try.prog 8 #[.int .i64 a0, .slice a1 len1 cap1, .int .i64 a2, .int .i64 a3] w fun e w' => e = .returned (.bool true) ∧ Below w.heap.size w w' := by
  have HPR := Lib.hid w1
  obtain ⟨l0, u0⟩ := bounds_i64 w0
  obtain ⟨l2, u2⟩ := bounds_i64 w2
  obtain ⟨l3, u3⟩ := bounds_i64 w3
  obtain ⟨bn, hbn, hpb⟩ := pick_nat a2 8 l2 u2 (by omega) (by omega) 8 rfl
  obtain ⟨rn, hrn, hpr⟩ := pick_nat a3 30 l3 u3 (by omega) (by omega) 30 rfl
  have HPB := Lib.hid hpb
  have HPN := Lib.hid hpr
  clear w0 w1 w2 w3 hpb hpr l2 u2 l3 u3
  go_enter Try.func8, Try.ntmps8
  go_wp2_with fail
  refine (awake_any _).mono ?_
  rintro e w1 ⟨rfl, b1⟩
  have BL0 := Lib.hid b1
  have HPR1 := Lib.hid (pairs_below HPR.out b1)
  clear b1
  go_wp2_with fail
  have hsl := Lib.hid (Shelf_lit a0 a1 len1 cap1 z1 l0 u0 w1 HPR1.out)
  (with_reducible refine hsl.out.mono ?_)
  clear hsl
  rintro e w2 ⟨c, ac, kc, rfl, s2, hsm, b2⟩
  have HSM := Lib.hid hsm
  have hcl : c.clock ≤ 30 := hsm.2.2.1
  obtain ⟨g9, d, f, h, htw⟩ := twice_of hsm.1 (by omega) (bn : Int) (by omega) (by omega) hsm.2.2.2 ⟨#[120]⟩ ⟨#[121]⟩
  have HTW := Lib.hid htw
  have LC := Lib.hid (show c.held.length ≤ 1000000 by have := hsm.len; omega)
  have LD := Lib.hid (show d.held.length ≤ 1000000 by have := htw.rd.2.2.2.2.1; have := htw.rd.2.1; omega)
  have LF := Lib.hid (show f.held.length ≤ 1000000 by have := htw.rf.2.2.2.2.1; have := htw.rf.2.1; omega)
  have LH := Lib.hid (show h.held.length ≤ 1000000 by have := htw.rh.2.2.2.2.1; have := htw.rh.2.1; omega)
  clear hsm htw hcl
  have Cc2 := Lib.hid (CellSh.new s2)
  have BL2 := Lib.hid ((BL0.out.trans (b2.mono BL0.out.size)).alloc (Nat.le_trans BL0.out.size b2.size) (.cells #[.int .i64 c.room, .int .i64 c.clock, .slice ac c.held.length kc] TS))
  have zz2 := Nat.le_trans BL0.out.size b2.size
  obtain ⟨Bc, hc⟩ : ∃ B, w2.heap.size = B := ⟨_, rfl⟩
  rw [hc] at Cc2 zz2
  obtain ⟨V2, hV2⟩ : ∃ V, w2.alloc (.cells #[.int .i64 c.room, .int .i64 c.clock, .slice ac c.held.length kc] TS) = V := ⟨_, rfl⟩
  rw [hV2] at BL2 Cc2
  clear s2 b2
  obtain ⟨xc0, xc1, xc2, fc0, fc1, fc2⟩ := Cc2.out.cells
  go_wp2_with fail
  clear hV2 hc
  clear xc0 xc1 xc2 fc0 fc1 fc2
  refine (HPB.out _).mono ?_
  rintro e w9 ⟨rfl, rfl⟩
  obtain ⟨xc0, xc1, xc2, fc0, fc1, fc2⟩ := Cc2.out.cells
  go_wp2_with fail
  clear xc0 xc1 xc2 fc0 fc1 fc2
  have hqi1 := Lib.hid (keep_lit c ac kc (bn : Int) ⟨#[120]⟩ HTW.out.k1 _ LC.out Cc2.out.sh (by omega) (by omega))
  (with_reducible refine hqi1.out.mono ?_)
  clear hqi1
  rintro e wi1 ⟨ai1, ki1, rfl, si1, bi1⟩
  have Cci1 := Lib.hid ((Cc2.out.below bi1 rfl).below ((Below.refl _ _).alloc (Nat.le_refl _) (.cells #[.int .i64 d.room, .int .i64 d.clock, .slice ai1 d.held.length ki1] TS)) rfl)
  have lci1 := (Cc2.out.below bi1 rfl).lt
  have Cdi1 := CellSh.new si1
  have BLi1 := Lib.hid ((BL2.out.trans (bi1.mono BL2.out.size)).alloc (Nat.le_trans BL2.out.size bi1.size) (.cells #[.int .i64 d.room, .int .i64 d.clock, .slice ai1 d.held.length ki1] TS))
  have zi1 := Nat.le_trans BL2.out.size bi1.size
  obtain ⟨Bd, hd⟩ : ∃ B, wi1.heap.size = B := ⟨_, rfl⟩
  rw [hd] at Cdi1 zi1 lci1
  have ncd : ¬ Bc = Bd := by omega
  have ndc : ¬ Bd = Bc := by omega
  have Ddi1 := Lib.hid Cdi1
  clear bi1 si1 Cdi1
  obtain ⟨Vi1, hVi1⟩ : ∃ V, wi1.alloc (.cells #[.int .i64 d.room, .int .i64 d.clock, .slice ai1 d.held.length ki1] TS) = V := ⟨_, rfl⟩
  rw [hVi1] at BLi1 Ddi1 Cci1
  obtain ⟨xc0, xc1, xc2, fc0, fc1, fc2⟩ := Cci1.out.cells
  obtain ⟨xd0, xd1, xd2, fd0, fd1, fd2⟩ := Ddi1.out.cells
  go_wp2_with fail
  clear hVi1 hd
  clear xc0 xc1 xc2 fc0 fc1 fc2 xd0 xd1 xd2 fd0 fd1 fd2
  have hqi2 := Lib.hid (keep_lit d ai1 ki1 (bn : Int) ⟨#[121]⟩ HTW.out.k2 _ LD.out Ddi1.out.sh (by omega) (by omega))
  (with_reducible refine hqi2.out.mono ?_)
  clear hqi2
  rintro e wi2 ⟨ai2, ki2, rfl, si2, bi2⟩
  have Cci2 := Lib.hid ((Cci1.out.below bi2 rfl).below ((Below.refl _ _).alloc (Nat.le_refl _) (.cells #[.int .i64 f.room, .int .i64 f.clock, .slice ai2 f.held.length ki2] TS)) rfl)
  have lci2 := (Cci1.out.below bi2 rfl).lt
  have Cdi2 := Lib.hid ((Ddi1.out.below bi2 rfl).below ((Below.refl _ _).alloc (Nat.le_refl _) (.cells #[.int .i64 f.room, .int .i64 f.clock, .slice ai2 f.held.length ki2] TS)) rfl)
  have ldi2 := (Ddi1.out.below bi2 rfl).lt
  have Cfi2 := CellSh.new si2
  have BLi2 := Lib.hid ((BLi1.out.trans (bi2.mono BLi1.out.size)).alloc (Nat.le_trans BLi1.out.size bi2.size) (.cells #[.int .i64 f.room, .int .i64 f.clock, .slice ai2 f.held.length ki2] TS))
  have zi2 := Nat.le_trans BLi1.out.size bi2.size
  obtain ⟨Bf, hf⟩ : ∃ B, wi2.heap.size = B := ⟨_, rfl⟩
  rw [hf] at Cfi2 zi2 lci2 ldi2
  have ncf : ¬ Bc = Bf := by omega
  have nfc : ¬ Bf = Bc := by omega
  have ndf : ¬ Bd = Bf := by omega
  have nfd : ¬ Bf = Bd := by omega
  have Dfi2 := Lib.hid Cfi2
  clear bi2 si2 Cfi2
  obtain ⟨Vi2, hVi2⟩ : ∃ V, wi2.alloc (.cells #[.int .i64 f.room, .int .i64 f.clock, .slice ai2 f.held.length ki2] TS) = V := ⟨_, rfl⟩
  rw [hVi2] at BLi2 Dfi2 Cci2 Cdi2
  obtain ⟨xc0, xc1, xc2, fc0, fc1, fc2⟩ := Cci2.out.cells
  obtain ⟨xd0, xd1, xd2, fd0, fd1, fd2⟩ := Cdi2.out.cells
  obtain ⟨xf0, xf1, xf2, ff0, ff1, ff2⟩ := Dfi2.out.cells
  go_wp2_with fail
  clear hVi2 hf
  clear xc0 xc1 xc2 fc0 fc1 fc2 xd0 xd1 xd2 fd0 fd1 fd2 xf0 xf1 xf2 ff0 ff1 ff2
  have hqi3 := Lib.hid (take_lit f ai2 ki2 (bn : Int) HTW.out.t3 _ LF.out Dfi2.out.sh (by omega) (by omega))
  (with_reducible refine hqi3.out.mono ?_)
  clear hqi3
  rintro e wi3 ⟨ai3, ki3, rfl, si3, bi3⟩
  have Cci3 := Lib.hid ((Cci2.out.below bi3 rfl).below ((Below.refl _ _).alloc (Nat.le_refl _) (.cells #[.int .i64 h.room, .int .i64 h.clock, .slice ai3 h.held.length ki3] TS)) rfl)
  have lci3 := (Cci2.out.below bi3 rfl).lt
  have Cdi3 := Lib.hid ((Cdi2.out.below bi3 rfl).below ((Below.refl _ _).alloc (Nat.le_refl _) (.cells #[.int .i64 h.room, .int .i64 h.clock, .slice ai3 h.held.length ki3] TS)) rfl)
  have ldi3 := (Cdi2.out.below bi3 rfl).lt
  have Cfi3 := Lib.hid ((Dfi2.out.below bi3 rfl).below ((Below.refl _ _).alloc (Nat.le_refl _) (.cells #[.int .i64 h.room, .int .i64 h.clock, .slice ai3 h.held.length ki3] TS)) rfl)
  have lfi3 := (Dfi2.out.below bi3 rfl).lt
  have Chi3 := CellSh.new si3
  have BLi3 := Lib.hid ((BLi2.out.trans (bi3.mono BLi2.out.size)).alloc (Nat.le_trans BLi2.out.size bi3.size) (.cells #[.int .i64 h.room, .int .i64 h.clock, .slice ai3 h.held.length ki3] TS))
  have zi3 := Nat.le_trans BLi2.out.size bi3.size
  obtain ⟨Bh, hh⟩ : ∃ B, wi3.heap.size = B := ⟨_, rfl⟩
  rw [hh] at Chi3 zi3 lci3 ldi3 lfi3
  have nch : ¬ Bc = Bh := by omega
  have nhc : ¬ Bh = Bc := by omega
  have ndh : ¬ Bd = Bh := by omega
  have nhd : ¬ Bh = Bd := by omega
  have nfh : ¬ Bf = Bh := by omega
  have nhf : ¬ Bh = Bf := by omega
  have Dhi3 := Lib.hid Chi3
  clear bi3 si3 Chi3
  obtain ⟨Vi3, hVi3⟩ : ∃ V, wi3.alloc (.cells #[.int .i64 h.room, .int .i64 h.clock, .slice ai3 h.held.length ki3] TS) = V := ⟨_, rfl⟩
  rw [hVi3] at BLi3 Dhi3 Cci3 Cdi3 Cfi3
  obtain ⟨xc0, xc1, xc2, fc0, fc1, fc2⟩ := Cci3.out.cells
  obtain ⟨xd0, xd1, xd2, fd0, fd1, fd2⟩ := Cdi3.out.cells
  obtain ⟨xf0, xf1, xf2, ff0, ff1, ff2⟩ := Cfi3.out.cells
  obtain ⟨xh0, xh1, xh2, fh0, fh1, fh2⟩ := Dhi3.out.cells
  go_wp2_with fail
  clear hVi3 hh
  clear xc0 xc1 xc2 fc0 fc1 fc2 xd0 xd1 xd2 fd0 fd1 fd2 xf0 xf1 xf2 ff0 ff1 ff2 xh0 xh1 xh2 fh0 fh1 fh2
  obtain ⟨L, hL⟩ : ∃ L, order d = L := ⟨_, rfl⟩
  have HOD := Lib.hid hL
  have HOF := Lib.hid (HTW.out.o1.trans hL)
  have HOH := Lib.hid (HTW.out.o2.trans (HTW.out.o1.trans hL))
  have HLL := Lib.hid (show L.length ≤ 1000000 by rw [← hL, order_len HTW.out.rd]; exact LD.out)
  clear hL
  refine wp_region_held_drew (S := fun w' => CellSh w' Bd d ai1 ki1 ∧ CellSh w' Bf f ai2 ki2 ∧ CellSh w' Bh h ai3 ki3 ∧ CellSh w' Bc c ac kc) (by kernel_rfl) ⟨Cdi3.out.below (Below.refl _ _).drew rfl, Cfi3.out.below (Below.refl _ _).drew rfl, Dhi3.out.below (Below.refl _ _).drew rfl, Cci3.out.below (Below.refl _ _).drew rfl⟩ (fun hHeld => ?_)
  refine wpAnyH_take (i := 0) (v := .int .i64 0) rfl (by kernel_rfl) (by kernel_rfl) (by kernel_rfl) (fun _ _ _ h => h) (Or.inl ⟨by rfl, fun w hSw => by (try dsimp only at hSw); go_simp⟩) hHeld ?_
  try simp only [List.getElem_toArray, List.getElem_cons_succ, List.getElem_cons_zero, Act.put, List.setIfInBounds_toArray, List.set_cons_zero, List.set_cons_succ]
  refine wpAnyH_take (i := 1) (v := .bool false) rfl (by kernel_rfl) (by kernel_rfl) (by kernel_rfl) (fun _ _ _ h => h) (Or.inl ⟨by rfl, fun w hSw => by (try dsimp only at hSw); go_simp⟩) hHeld ?_
  try simp only [List.getElem_toArray, List.getElem_cons_succ, List.getElem_cons_zero, Act.put, List.setIfInBounds_toArray, List.set_cons_zero, List.set_cons_succ]
  refine wpAnyH_take (i := 2) (v := .bool false) rfl (by kernel_rfl) (by kernel_rfl) (by kernel_rfl) (fun _ _ _ h => h) (Or.inl ⟨by rfl, fun w hSw => by (try dsimp only at hSw); go_simp⟩) hHeld ?_
  try simp only [List.getElem_toArray, List.getElem_cons_succ, List.getElem_cons_zero, Act.put, List.setIfInBounds_toArray, List.set_cons_zero, List.set_cons_succ]
  refine wpAnyH_take (i := 3) (v := .int .i64 0) rfl (by kernel_rfl) (by kernel_rfl) (by kernel_rfl) (fun _ _ _ h => h) (Or.inl ⟨by rfl, fun w hSw => by (try dsimp only at hSw); go_simp⟩) hHeld ?_
  try simp only [List.getElem_toArray, List.getElem_cons_succ, List.getElem_cons_zero, Act.put, List.setIfInBounds_toArray, List.set_cons_zero, List.set_cons_succ]
  refine wpAnyH_take (i := 4) (v := .bool false) rfl (by kernel_rfl) (by kernel_rfl) (by kernel_rfl) (fun _ _ _ h => h) (Or.inl ⟨by rfl, fun w hSw => by (try dsimp only at hSw); go_simp⟩) hHeld ?_
  try simp only [List.getElem_toArray, List.getElem_cons_succ, List.getElem_cons_zero, Act.put, List.setIfInBounds_toArray, List.set_cons_zero, List.set_cons_succ]
  refine wpAnyH_take (i := 5) (v := .bool false) rfl (by kernel_rfl) (by kernel_rfl) (by kernel_rfl) (fun _ _ _ h => h) (Or.inl ⟨by rfl, fun w hSw => by (try dsimp only at hSw); go_simp⟩) hHeld ?_
  try simp only [List.getElem_toArray, List.getElem_cons_succ, List.getElem_cons_zero, Act.put, List.setIfInBounds_toArray, List.set_cons_zero, List.set_cons_succ]
  refine wpAnyH_take (i := 6) (v := .bool false) rfl (by kernel_rfl) (by kernel_rfl) (by kernel_rfl) (fun _ _ _ h => h) (Or.inl ⟨by rfl, fun w hSw => by (try dsimp only at hSw); go_simp⟩) hHeld ?_
  try simp only [List.getElem_toArray, List.getElem_cons_succ, List.getElem_cons_zero, Act.put, List.setIfInBounds_toArray, List.set_cons_zero, List.set_cons_succ]
  refine wpAnyH_take (i := 7) (v := .int .i64 0) rfl (by kernel_rfl) (by kernel_rfl) (by kernel_rfl) (fun _ _ _ h => h) (Or.inl ⟨by rfl, fun w hSw => by (try dsimp only at hSw); go_simp⟩) hHeld ?_
  try simp only [List.getElem_toArray, List.getElem_cons_succ, List.getElem_cons_zero, Act.put, List.setIfInBounds_toArray, List.set_cons_zero, List.set_cons_succ]
  refine wpAnyH_take (i := 8) (v := .bool false) rfl (by kernel_rfl) (by kernel_rfl) (by kernel_rfl) (fun _ _ _ h => h) (Or.inl ⟨by rfl, fun w hSw => by (try dsimp only at hSw); go_simp⟩) hHeld ?_
  try simp only [List.getElem_toArray, List.getElem_cons_succ, List.getElem_cons_zero, Act.put, List.setIfInBounds_toArray, List.set_cons_zero, List.set_cons_succ]
  refine wpAnyH_take (i := 9) (v := .bool false) rfl (by kernel_rfl) (by kernel_rfl) (by kernel_rfl) (fun _ _ _ h => h) (Or.inl ⟨by rfl, fun w hSw => by (try dsimp only at hSw); go_simp⟩) hHeld ?_
  try simp only [List.getElem_toArray, List.getElem_cons_succ, List.getElem_cons_zero, Act.put, List.setIfInBounds_toArray, List.set_cons_zero, List.set_cons_succ]
  refine wpAnyH_take (i := 10) (v := .bool false) rfl (by kernel_rfl) (by kernel_rfl) (by kernel_rfl) (fun _ _ _ h => h) (Or.inl ⟨by rfl, fun w hSw => by (try dsimp only at hSw); go_simp⟩) hHeld ?_
  try simp only [List.getElem_toArray, List.getElem_cons_succ, List.getElem_cons_zero, Act.put, List.setIfInBounds_toArray, List.set_cons_zero, List.set_cons_succ]
  refine wpAnyH_take (i := 11) (v := .int .i64 (-1)) rfl (by kernel_rfl) (by kernel_rfl) (by kernel_rfl) (fun _ _ _ h => h) (Or.inl ⟨by rfl, fun w hSw => by (try dsimp only at hSw); go_simp⟩) hHeld ?_
  try simp only [List.getElem_toArray, List.getElem_cons_succ, List.getElem_cons_zero, Act.put, List.setIfInBounds_toArray, List.set_cons_zero, List.set_cons_succ]
  refine wpAnyH_take (i := 12) (v := .bool false) rfl (by kernel_rfl) (by kernel_rfl) (by kernel_rfl) (fun _ _ _ h => h) (Or.inl ⟨by rfl, fun w hSw => by (try dsimp only at hSw); go_simp⟩) hHeld ?_
  try simp only [List.getElem_toArray, List.getElem_cons_succ, List.getElem_cons_zero, Act.put, List.setIfInBounds_toArray, List.set_cons_zero, List.set_cons_succ]
  refine wpAnyH_take (i := 13) (v := .bool false) rfl (by kernel_rfl) (by kernel_rfl) (by kernel_rfl) (fun _ _ _ h => h) (Or.inl ⟨by rfl, fun w hSw => by (try dsimp only at hSw); go_simp⟩) hHeld ?_
  try simp only [List.getElem_toArray, List.getElem_cons_succ, List.getElem_cons_zero, Act.put, List.setIfInBounds_toArray, List.set_cons_zero, List.set_cons_succ]
  refine wpAnyH_take (i := 14) (v := .bool false) rfl (by kernel_rfl) (by kernel_rfl) (by kernel_rfl) (fun _ _ _ h => h) (Or.inl ⟨by rfl, fun w hSw => by (try dsimp only at hSw); go_simp⟩) hHeld ?_
  try simp only [List.getElem_toArray, List.getElem_cons_succ, List.getElem_cons_zero, Act.put, List.setIfInBounds_toArray, List.set_cons_zero, List.set_cons_succ]
  refine wpAnyH_take (i := 15) (v := .string ⟨#[121]⟩) rfl (by kernel_rfl) (by kernel_rfl) (by kernel_rfl) (fun _ _ _ h => h) (Or.inl ⟨by rfl, fun w hSw => by (try dsimp only at hSw); go_simp⟩) hHeld ?_
  try simp only [List.getElem_toArray, List.getElem_cons_succ, List.getElem_cons_zero, Act.put, List.setIfInBounds_toArray, List.set_cons_zero, List.set_cons_succ]
  refine wpAnyH_take (i := 16) (v := .bool false) rfl (by kernel_rfl) (by kernel_rfl) (by kernel_rfl) (fun _ _ _ h => h) (Or.inl ⟨by rfl, fun w hSw => by (try dsimp only at hSw); go_simp⟩) hHeld ?_
  try simp only [List.getElem_toArray, List.getElem_cons_succ, List.getElem_cons_zero, Act.put, List.setIfInBounds_toArray, List.set_cons_zero, List.set_cons_succ]
  refine wpAnyH_take (i := 17) (v := .bool false) rfl (by kernel_rfl) (by kernel_rfl) (by kernel_rfl) (fun _ _ _ h => h) (Or.inl ⟨by rfl, fun w hSw => by (try dsimp only at hSw); go_simp⟩) hHeld ?_
  try simp only [List.getElem_toArray, List.getElem_cons_succ, List.getElem_cons_zero, Act.put, List.setIfInBounds_toArray, List.set_cons_zero, List.set_cons_succ]
  refine wpAnyH_take (i := 18) (v := .bool false) rfl (by kernel_rfl) (by kernel_rfl) (by kernel_rfl) (fun _ _ _ h => h) (Or.inl ⟨by rfl, fun w hSw => by (try dsimp only at hSw); go_simp⟩) hHeld ?_
  try simp only [List.getElem_toArray, List.getElem_cons_succ, List.getElem_cons_zero, Act.put, List.setIfInBounds_toArray, List.set_cons_zero, List.set_cons_succ]
  refine wpAnyH_take (i := 19) (v := .agg #[.int .i64 d.room, .int .i64 d.clock, .slice ai1 d.held.length ki1]) rfl (by kernel_rfl) (by kernel_rfl) (by kernel_rfl) (fun _ _ _ h => h) (Or.inl ⟨by rfl, fun w hSw => by obtain ⟨x0, x1, x2, f0, f1, f2⟩ := hSw.1.cells; go_simp⟩) hHeld ?_
  try simp only [List.getElem_toArray, List.getElem_cons_succ, List.getElem_cons_zero, Act.put, List.setIfInBounds_toArray, List.set_cons_zero, List.set_cons_succ]
  refine wpAnyH_take (i := 21) (v := .agg #[.int .i64 f.room, .int .i64 f.clock, .slice ai2 f.held.length ki2]) rfl (by kernel_rfl) (by kernel_rfl) (by kernel_rfl) (fun _ _ _ h => h) (Or.inl ⟨by rfl, fun w hSw => by obtain ⟨x0, x1, x2, f0, f1, f2⟩ := hSw.2.1.cells; go_simp⟩) hHeld ?_
  try simp only [List.getElem_toArray, List.getElem_cons_succ, List.getElem_cons_zero, Act.put, List.setIfInBounds_toArray, List.set_cons_zero, List.set_cons_succ]
  refine wpAnyH_ready (rs := [20]) (by kernel_rfl) (by simp) ?_
  refine AllReadyH.cons rfl (fun K hK => ?_) ?_
  · go_simp
    go_at_call 19
    have hqA := Lib.hid (order_lit d ai1 ki1 HOD.out _ LD.out hHeld.1.sh.src)
    (with_reducible refine hqA.out.mono ?_)
    clear hqA
    rintro e wA ⟨pA, kA, rfl, sA, bA⟩
    have BEA := Lib.hid ((Lib.hid (BLi3.out.drew)).out.trans (bA.mono (Lib.hid (BLi3.out.drew)).out.size))
    have SPA := Lib.hid sA.src
    refine hK.out _ _ ?_ (fun hHeld => ?_)
    · exact ⟨hHeld.1.below bA rfl, hHeld.2.1.below bA rfl, hHeld.2.2.1.below bA rfl, hHeld.2.2.2.below bA rfl⟩
    clear hK K
    try simp only [List.getElem_toArray, List.getElem_cons_succ, List.getElem_cons_zero, Act.put, List.setIfInBounds_toArray, List.set_cons_zero, List.set_cons_succ]
    refine wpAnyH_ready (rs := [22]) (by kernel_rfl) (by simp) ?_
    refine AllReadyH.cons rfl (fun K hK => ?_) ?_
    · go_simp
      go_at_call 19
      have hqB := Lib.hid (order_lit f ai2 ki2 HOF.out _ LF.out hHeld.2.1.sh.src)
      (with_reducible refine hqB.out.mono ?_)
      clear hqB
      rintro e wB ⟨pB, kB, rfl, sB, bB⟩
      have BEB := Lib.hid (BEA.out.trans (bB.mono BEA.out.size))
      have SPB := Lib.hid sB.src
      have SPA2 := Lib.hid (SPA.out.below bB)
      refine hK.out _ _ ?_ (fun hHeld => ?_)
      · exact ⟨hHeld.1.below bB rfl, hHeld.2.1.below bB rfl, hHeld.2.2.1.below bB rfl, hHeld.2.2.2.below bB rfl⟩
      clear hK K
      try simp only [List.getElem_toArray, List.getElem_cons_succ, List.getElem_cons_zero, Act.put, List.setIfInBounds_toArray, List.set_cons_zero, List.set_cons_succ]
      refine wpAnyH_ready (rs := [23]) (by kernel_rfl) (by simp) ?_
      refine AllReadyH.cons rfl (fun K hK => ?_) ?_
      · go_simp
        go_at_call 18
        have hqE := Lib.hid (ints_lit pA pB kA kB L rfl rfl HLL.out _ SPA2.out SPB.out)
        (with_reducible refine hqE.out.mono ?_)
        clear hqE
        rintro e wE ⟨rfl, bE⟩
        have BEE := Lib.hid (BEB.out.trans (bE.mono BEB.out.size))
        refine hK.out _ _ ?_ (fun hHeld => ?_)
        · exact ⟨hHeld.1.below bE rfl, hHeld.2.1.below bE rfl, hHeld.2.2.1.below bE rfl, hHeld.2.2.2.below bE rfl⟩
        clear hK K
        try simp only [List.getElem_toArray, List.getElem_cons_succ, List.getElem_cons_zero, Act.put, List.setIfInBounds_toArray, List.set_cons_zero, List.set_cons_succ]
        refine wpAnyH_take (i := 24) (v := .bool false) rfl (by kernel_rfl) (by kernel_rfl) (by kernel_rfl) (fun _ _ _ h => h) (Or.inl ⟨by rfl, fun w hSw => by (try dsimp only at hSw); go_simp⟩) hHeld ?_
        try simp only [List.getElem_toArray, List.getElem_cons_succ, List.getElem_cons_zero, Act.put, List.setIfInBounds_toArray, List.set_cons_zero, List.set_cons_succ]
        refine wpAnyH_take (i := 25) (v := .bool false) rfl (by kernel_rfl) (by kernel_rfl) (by kernel_rfl) (fun _ _ _ h => h) (Or.inl ⟨by rfl, fun w hSw => by (try dsimp only at hSw); go_simp⟩) hHeld ?_
        try simp only [List.getElem_toArray, List.getElem_cons_succ, List.getElem_cons_zero, Act.put, List.setIfInBounds_toArray, List.set_cons_zero, List.set_cons_succ]
        refine wpAnyH_take (i := 26) (v := .bool false) rfl (by kernel_rfl) (by kernel_rfl) (by kernel_rfl) (fun _ _ _ h => h) (Or.inl ⟨by rfl, fun w hSw => by (try dsimp only at hSw); go_simp⟩) hHeld ?_
        try simp only [List.getElem_toArray, List.getElem_cons_succ, List.getElem_cons_zero, Act.put, List.setIfInBounds_toArray, List.set_cons_zero, List.set_cons_succ]
        refine wpAnyH_take (i := 27) (v := .agg #[.int .i64 f.room, .int .i64 f.clock, .slice ai2 f.held.length ki2]) rfl (by kernel_rfl) (by kernel_rfl) (by kernel_rfl) (fun _ _ _ h => h) (Or.inl ⟨by rfl, fun w hSw => by obtain ⟨x0, x1, x2, f0, f1, f2⟩ := hSw.2.1.cells; go_simp⟩) hHeld ?_
        try simp only [List.getElem_toArray, List.getElem_cons_succ, List.getElem_cons_zero, Act.put, List.setIfInBounds_toArray, List.set_cons_zero, List.set_cons_succ]
        refine wpAnyH_take (i := 29) (v := .agg #[.int .i64 h.room, .int .i64 h.clock, .slice ai3 h.held.length ki3]) rfl (by kernel_rfl) (by kernel_rfl) (by kernel_rfl) (fun _ _ _ h => h) (Or.inl ⟨by rfl, fun w hSw => by obtain ⟨x0, x1, x2, f0, f1, f2⟩ := hSw.2.2.1.cells; go_simp⟩) hHeld ?_
        try simp only [List.getElem_toArray, List.getElem_cons_succ, List.getElem_cons_zero, Act.put, List.setIfInBounds_toArray, List.set_cons_zero, List.set_cons_succ]
        refine wpAnyH_ready (rs := [28]) (by kernel_rfl) (by simp) ?_
        refine AllReadyH.cons rfl (fun K hK => ?_) ?_
        · go_simp
          go_at_call 19
          have hqP := Lib.hid (order_lit f ai2 ki2 HOF.out _ LF.out hHeld.2.1.sh.src)
          (with_reducible refine hqP.out.mono ?_)
          clear hqP
          rintro e wP ⟨pP, kP, rfl, sP, bP⟩
          have BEP := Lib.hid (BEE.out.trans (bP.mono BEE.out.size))
          have SPP := Lib.hid sP.src
          refine hK.out _ _ ?_ (fun hHeld => ?_)
          · exact ⟨hHeld.1.below bP rfl, hHeld.2.1.below bP rfl, hHeld.2.2.1.below bP rfl, hHeld.2.2.2.below bP rfl⟩
          clear hK K
          try simp only [List.getElem_toArray, List.getElem_cons_succ, List.getElem_cons_zero, Act.put, List.setIfInBounds_toArray, List.set_cons_zero, List.set_cons_succ]
          refine wpAnyH_ready (rs := [30]) (by kernel_rfl) (by simp) ?_
          refine AllReadyH.cons rfl (fun K hK => ?_) ?_
          · go_simp
            go_at_call 19
            have hqQ := Lib.hid (order_lit h ai3 ki3 HOH.out _ LH.out hHeld.2.2.1.sh.src)
            (with_reducible refine hqQ.out.mono ?_)
            clear hqQ
            rintro e wQ ⟨pQ, kQ, rfl, sQ, bQ⟩
            have BEQ := Lib.hid (BEP.out.trans (bQ.mono BEP.out.size))
            have SPQ := Lib.hid sQ.src
            have SPP2 := Lib.hid (SPP.out.below bQ)
            refine hK.out _ _ ?_ (fun hHeld => ?_)
            · exact ⟨hHeld.1.below bQ rfl, hHeld.2.1.below bQ rfl, hHeld.2.2.1.below bQ rfl, hHeld.2.2.2.below bQ rfl⟩
            clear hK K
            try simp only [List.getElem_toArray, List.getElem_cons_succ, List.getElem_cons_zero, Act.put, List.setIfInBounds_toArray, List.set_cons_zero, List.set_cons_succ]
            refine wpAnyH_ready (rs := [31]) (by kernel_rfl) (by simp) ?_
            refine AllReadyH.cons rfl (fun K hK => ?_) ?_
            · go_simp
              go_at_call 18
              have hqR := Lib.hid (ints_lit pP pQ kP kQ L rfl rfl HLL.out _ SPP2.out SPQ.out)
              (with_reducible refine hqR.out.mono ?_)
              clear hqR
              rintro e wR ⟨rfl, bR⟩
              have BER := Lib.hid (BEQ.out.trans (bR.mono BEQ.out.size))
              refine hK.out _ _ ?_ (fun hHeld => ?_)
              · exact ⟨hHeld.1.below bR rfl, hHeld.2.1.below bR rfl, hHeld.2.2.1.below bR rfl, hHeld.2.2.2.below bR rfl⟩
              clear hK K
              try simp only [List.getElem_toArray, List.getElem_cons_succ, List.getElem_cons_zero, Act.put, List.setIfInBounds_toArray, List.set_cons_zero, List.set_cons_succ]
              refine wpAnyH_take (i := 32) (v := .bool false) rfl (by kernel_rfl) (by kernel_rfl) (by kernel_rfl) (fun _ _ _ h => h) (Or.inl ⟨by rfl, fun w hSw => by (try dsimp only at hSw); go_simp⟩) hHeld ?_
              try simp only [List.getElem_toArray, List.getElem_cons_succ, List.getElem_cons_zero, Act.put, List.setIfInBounds_toArray, List.set_cons_zero, List.set_cons_succ]
              refine wpAnyH_take (i := 33) (v := .bool false) rfl (by kernel_rfl) (by kernel_rfl) (by kernel_rfl) (fun _ _ _ h => h) (Or.inl ⟨by rfl, fun w hSw => by (try dsimp only at hSw); go_simp⟩) hHeld ?_
              try simp only [List.getElem_toArray, List.getElem_cons_succ, List.getElem_cons_zero, Act.put, List.setIfInBounds_toArray, List.set_cons_zero, List.set_cons_succ]
              refine wpAnyH_done (by kernel_rfl) ?_ _
              obtain ⟨n, hn, hn1, hn6⟩ : ∃ n : Nat, c.room = (n : Int) ∧ 1 ≤ n ∧ n ≤ 6 := ⟨c.room.toNat, by have := HSM.out.1.1; omega, by have := HSM.out.1.1; omega, by have := HSM.out.2.1; omega⟩
              have HN := Lib.hid hn
              have HF0 := Lib.hid (show Fill (n : Int) (33 + 0) 0 ⟨#[122]⟩ h from ⟨HTW.out.rh, HTW.out.room.trans hn, by have := HTW.out.clock; have := HSM.out.2.2.1; omega, ⟨_, rfl, HTW.out.few⟩, fun i hi => absurd hi (Nat.not_lt_zero i)⟩)
              clear hn
              have HAT := Lib.hid (show FillAt n (33 + 0) 0 w c ac kc Bc Bh wR from ⟨h, ai3, ki3, hHeld.2.2.2, hHeld.2.2.1, HF0.out, BER.out⟩)
              have hwB : w.heap.size ≤ Bh := by omega
              clear HF0 hHeld BER HOD HOF HOH HLL LD LF LH
              go_wp2
              go_loopw [21] (fun i wr => ∃ j : Nat, j ≤ n ∧ i = .int .i64 j ∧ RowKit.Hid (FillAt n (33 + j) j w c ac kc Bc Bh wr)) (fun i _ => n - (intOf i).toNat)
              case atStart => exact ⟨0, by omega, rfl, HAT⟩
              case round =>
                obtain ⟨j, hj, rfl, hat⟩ := hrel
                obtain ⟨hh, ah, kh, hcc, hch, hfi, hb⟩ := hat.out
                have CC := Lib.hid hcc
                have CH := Lib.hid hch
                have HF := Lib.hid hfi
                have BL := Lib.hid hb
                have zr := hb.size
                have lc := hcc.lt
                have lh := hch.lt
                have LH2 := Lib.hid (show hh.held.length ≤ 1000000 by have := hfi.r.2.2.2.2.1; have := hfi.r.2.1; omega)
                clear hcc hch hfi hb hat HAT
                obtain ⟨xc0, xc1, xc2, fc0, fc1, fc2⟩ := CC.out.cells
                rw [HN.out] at xc0
                by_cases hlt : j < n
                · obtain ⟨g1, h2, hkp, hf2⟩ := HF.out.step (by omega) (by omega)
                  have HKP := Lib.hid hkp
                  have HF2 := Lib.hid hf2
                  clear hkp hf2
                  obtain ⟨xh0, xh1, xh2, fh0, fh1, fh2⟩ := CH.out.cells
                  go_wp2_with fail
                  clear xc0 xc1 xc2 fc0 fc1 fc2 xh0 xh1 xh2 fh0 fh1 fh2
                  have hqq1 := Lib.hid (keep_lit hh ah kh (100 + (j : Int)) ⟨#[122]⟩ HKP.out _ LH2.out CH.out.sh (by omega) (by omega))
                  (with_reducible refine hqq1.out.mono ?_)
                  clear hqq1
                  rintro e wq1 ⟨aq1, kq1, rfl, sq1, bq1⟩
                  have Ccq1 := Lib.hid ((CC.out.below bq1 rfl).below ((Below.refl _ _).alloc (Nat.le_refl _) (.cells #[.int .i64 h2.room, .int .i64 h2.clock, .slice aq1 h2.held.length kq1] TS)) rfl)
                  have lcq1 := (CC.out.below bq1 rfl).lt
                  have Chq1 := Lib.hid ((CH.out.below bq1 rfl).below ((Below.refl _ _).alloc (Nat.le_refl _) (.cells #[.int .i64 h2.room, .int .i64 h2.clock, .slice aq1 h2.held.length kq1] TS)) rfl)
                  have lhq1 := (CH.out.below bq1 rfl).lt
                  have Cxq1 := CellSh.new sq1
                  have BLq1 := Lib.hid ((BL.out.trans (bq1.mono BL.out.size)).alloc (Nat.le_trans BL.out.size bq1.size) (.cells #[.int .i64 h2.room, .int .i64 h2.clock, .slice aq1 h2.held.length kq1] TS))
                  have zq1 := Nat.le_trans BL.out.size bq1.size
                  obtain ⟨Bx, hx⟩ : ∃ B, wq1.heap.size = B := ⟨_, rfl⟩
                  rw [hx] at Cxq1 zq1 lcq1 lhq1
                  have ncx : ¬ Bc = Bx := by omega
                  have nxc : ¬ Bx = Bc := by omega
                  have nhx : ¬ Bh = Bx := by omega
                  have nxh : ¬ Bx = Bh := by omega
                  have Dxq1 := Lib.hid Cxq1
                  clear bq1 sq1 Cxq1
                  obtain ⟨Vq1, hVq1⟩ : ∃ V, wq1.alloc (.cells #[.int .i64 h2.room, .int .i64 h2.clock, .slice aq1 h2.held.length kq1] TS) = V := ⟨_, rfl⟩
                  rw [hVq1] at BLq1 Dxq1 Ccq1 Chq1
                  obtain ⟨xc0, xc1, xc2, fc0, fc1, fc2⟩ := Ccq1.out.cells
                  obtain ⟨xh0, xh1, xh2, fh0, fh1, fh2⟩ := Chq1.out.cells
                  obtain ⟨xx0, xx1, xx2, fx0, fx1, fx2⟩ := Dxq1.out.cells
                  have Pcq2 := Lib.hid (Chq1.out.far Ccq1.out nch (.int .i64 h2.room) (.int .i64 h2.clock) (.slice aq1 h2.held.length kq1))
                  have Pxq2 := Lib.hid (Chq1.out.far Dxq1.out nxh (.int .i64 h2.room) (.int .i64 h2.clock) (.slice aq1 h2.held.length kq1))
                  have Phq2 := Lib.hid (Chq1.out.set Dxq1.out.sh)
                  have BPq2 := Lib.hid (Below.put3 (B := Bh) BLq1.out (by omega) (.int .i64 h2.room) (.int .i64 h2.clock) (.slice aq1 h2.held.length kq1))
                  go_wp2
                  go_roundw
                  case rel => exact ⟨j + 1, by omega, by go_num, Lib.hid ⟨h2, _, _, Pcq2.out, Phq2.out, HF2.out, BPq2.out⟩⟩
                  case measure => simp [intOf]; omega
                · obtain rfl : n = j := by omega
                  have HAT := Lib.hid (show TurnAt n (40 + 0) w c ac kc Bc Bh wr from ⟨hh, ah, kh, CC.out, CH.out, (HF.out.turn rfl).mono (by omega), BL.out⟩)
                  clear CC CH HF BL zr lc lh LH2
                  go_wp2
                  clear xc0 xc1 xc2 fc0 fc1 fc2
                  go_loopw [25] (fun i wr => ∃ j : Nat, j ≤ rn ∧ i = .int .i64 j ∧ RowKit.Hid (TurnAt n (40 + j) w c ac kc Bc Bh wr)) (fun i _ => rn - (intOf i).toNat)
                  case atStart => exact ⟨0, by omega, rfl, HAT⟩
                  case round =>
                    obtain ⟨j, hj, rfl, hat⟩ := hrel
                    obtain ⟨hh, ah, kh, hcc, hch, htu, hb⟩ := hat.out
                    have CC := Lib.hid hcc
                    have CH := Lib.hid hch
                    have HT := Lib.hid htu
                    have BL := Lib.hid hb
                    have zr := hb.size
                    have lc := hcc.lt
                    have lh := hch.lt
                    have LH2 := Lib.hid (show hh.held.length ≤ 1000000 by have := htu.r.2.2.2.2.1; have := htu.r.2.1; omega)
                    have hln := htu.len
                    clear hcc hch htu hb hat HAT
                    obtain ⟨xc0, xc1, xc2, fc0, fc1, fc2⟩ := CC.out.cells
                    rw [HN.out] at xc0
                    obtain ⟨xh0, xh1, xh2, fh0, fh1, fh2⟩ := CH.out.cells
                    go_wp2_with fail
                    refine (HPN.out _).mono ?_
                    rintro e w9 ⟨rfl, rfl⟩
                    by_cases hlt : j < rn
                    · obtain ⟨i, hi, hin⟩ : ∃ i : Nat, j % n = i ∧ i < n := ⟨_, rfl, Nat.mod_lt _ (by omega)⟩
                      have hrem : (j : Int).tmod (n : Int) = (i : Int) := by rw [← hi]; exact (Int.ofNat_tmod j n).symm
                      obtain ⟨h2, htk, ht2⟩ := HT.out.step (by omega) i hin
                      have HTK := Lib.hid htk
                      have HT2 := Lib.hid ht2
                      clear htk ht2 hi hln
                      go_wp2_with fail
                      refine wp_region_held_drew (S := fun w' => CellSh w' Bh hh ah kh ∧ CellSh w' Bc c ac kc) (by kernel_rfl) ⟨CH.out.below (Below.refl _ _).drew rfl, CC.out.below (Below.refl _ _).drew rfl⟩ (fun hHeld => ?_)
                      refine wpAnyH_take (i := 0) (v := .agg #[.int .i64 hh.room, .int .i64 hh.clock, .slice ah hh.held.length kh]) rfl (by kernel_rfl) (by kernel_rfl) (by kernel_rfl) (fun _ _ _ h => h) (Or.inl ⟨by rfl, fun w hSw => by obtain ⟨x0, x1, x2, f0, f1, f2⟩ := hSw.1.cells; go_simp⟩) hHeld ?_
                      try simp only [List.getElem_toArray, List.getElem_cons_succ, List.getElem_cons_zero, Act.put, List.setIfInBounds_toArray, List.set_cons_zero, List.set_cons_succ]
                      refine wpAnyH_take (i := 1) (v := .int .i64 (j : Int)) rfl (by kernel_rfl) (by kernel_rfl) (by kernel_rfl) (fun _ _ _ h => h) (Or.inl ⟨by rfl, fun w hSw => by (try dsimp only at hSw); go_simp⟩) hHeld ?_
                      try simp only [List.getElem_toArray, List.getElem_cons_succ, List.getElem_cons_zero, Act.put, List.setIfInBounds_toArray, List.set_cons_zero, List.set_cons_succ]
                      refine wpAnyH_take (i := 2) (v := .pointer (some ⟨Bc, 0, none⟩)) rfl (by kernel_rfl) (by kernel_rfl) (by kernel_rfl) (fun _ _ _ h => h) (Or.inl ⟨by rfl, fun w hSw => by (try dsimp only at hSw); go_simp⟩) hHeld ?_
                      try simp only [List.getElem_toArray, List.getElem_cons_succ, List.getElem_cons_zero, Act.put, List.setIfInBounds_toArray, List.set_cons_zero, List.set_cons_succ]
                      refine wpAnyH_take (i := 3) (v := .int .i64 (n : Int)) rfl (by kernel_rfl) (by kernel_rfl) (by kernel_rfl) (fun _ _ _ h => h) (Or.inl ⟨by rfl, fun w hSw => by obtain ⟨x0, x1, x2, f0, f1, f2⟩ := hSw.2.cells; rw [HN.out] at x0; go_simp⟩) hHeld ?_
                      try simp only [List.getElem_toArray, List.getElem_cons_succ, List.getElem_cons_zero, Act.put, List.setIfInBounds_toArray, List.set_cons_zero, List.set_cons_succ]
                      refine wpAnyH_take (i := 4) (v := .int .i64 (i : Int)) rfl (by kernel_rfl) (by kernel_rfl) (by kernel_rfl) (fun _ _ _ h => h) (Or.inl ⟨by rfl, fun w hSw => by (go_simp; omega)⟩) hHeld ?_
                      try simp only [List.getElem_toArray, List.getElem_cons_succ, List.getElem_cons_zero, Act.put, List.setIfInBounds_toArray, List.set_cons_zero, List.set_cons_succ]
                      refine wpAnyH_take (i := 5) (v := .int .i64 (100 + (i : Int))) rfl (by kernel_rfl) (by kernel_rfl) (by kernel_rfl) (fun _ _ _ h => h) (Or.inl ⟨by rfl, fun w hSw => by (go_simp; exact IntWalk.i64_in _ ⟨by omega, by omega⟩)⟩) hHeld ?_
                      try simp only [List.getElem_toArray, List.getElem_cons_succ, List.getElem_cons_zero, Act.put, List.setIfInBounds_toArray, List.set_cons_zero, List.set_cons_succ]
                      refine wpAnyH_ready (rs := [6, 11]) (by kernel_rfl) (by simp) ?_
                      refine AllReadyH.cons rfl (fun K hK => ?_) ?_
                      · go_simp
                        go_at_call 21
                        have hq5 := Lib.hid (take_lit hh ah kh (100 + (i : Int)) HTK.out _ LH2.out hHeld.1.sh (by omega) (by omega))
                        (with_reducible refine hq5.out.mono ?_)
                        clear hq5
                        rintro e w5 ⟨a5, k5, rfl, s5, b5⟩
                        have BE5 := Lib.hid (BL.out.drew.trans (b5.mono (by exact zr)))
                        refine hK.out _ _ ?_ (fun hHeld => ?_)
                        · exact ⟨hHeld.1.below b5 rfl, hHeld.2.below b5 rfl⟩
                        clear hK K
                        try simp only [List.getElem_toArray, List.getElem_cons_succ, List.getElem_cons_zero, Act.put, List.setIfInBounds_toArray, List.set_cons_zero, List.set_cons_succ]
                        refine wpAnyH_take (i := 7) (v := .tuple #[.string ⟨#[122]⟩, .agg #[.int .i64 h2.room, .int .i64 h2.clock, .slice a5 h2.held.length k5], .int .i64 0]) rfl (by kernel_rfl) (by kernel_rfl) (by kernel_rfl) (fun _ _ _ h => h) (Or.inl ⟨by rfl, fun w hSw => by (try dsimp only at hSw); go_simp⟩) hHeld ?_
                        try simp only [List.getElem_toArray, List.getElem_cons_succ, List.getElem_cons_zero, Act.put, List.setIfInBounds_toArray, List.set_cons_zero, List.set_cons_succ]
                        refine wpAnyH_take (i := 8) (v := .string ⟨#[122]⟩) rfl (by kernel_rfl) (by kernel_rfl) (by kernel_rfl) (fun _ _ _ h => h) (Or.inl ⟨by rfl, fun w hSw => by (try dsimp only at hSw); go_simp⟩) hHeld ?_
                        try simp only [List.getElem_toArray, List.getElem_cons_succ, List.getElem_cons_zero, Act.put, List.setIfInBounds_toArray, List.set_cons_zero, List.set_cons_succ]
                        refine wpAnyH_take (i := 9) (v := .agg #[.int .i64 h2.room, .int .i64 h2.clock, .slice a5 h2.held.length k5]) rfl (by kernel_rfl) (by kernel_rfl) (by kernel_rfl) (fun _ _ _ h => h) (Or.inl ⟨by rfl, fun w hSw => by (try dsimp only at hSw); go_simp⟩) hHeld ?_
                        try simp only [List.getElem_toArray, List.getElem_cons_succ, List.getElem_cons_zero, Act.put, List.setIfInBounds_toArray, List.set_cons_zero, List.set_cons_succ]
                        refine wpAnyH_take (i := 10) (v := .int .i64 0) rfl (by kernel_rfl) (by kernel_rfl) (by kernel_rfl) (fun _ _ _ h => h) (Or.inl ⟨by rfl, fun w hSw => by (try dsimp only at hSw); go_simp⟩) hHeld ?_
                        try simp only [List.getElem_toArray, List.getElem_cons_succ, List.getElem_cons_zero, Act.put, List.setIfInBounds_toArray, List.set_cons_zero, List.set_cons_succ]
                        refine wpAnyH_ready (rs := [11]) (by kernel_rfl) (by simp) ?_
                        refine AllReadyH.cons rfl (fun K hK => ?_) ?_
                        · have HH5 := Lib.hid hHeld
                          go_simp
                          refine hK.out _ _ ?_ (fun hHeld => ?_)
                          · exact ⟨hHeld.1.below ((Below.refl _ _).alloc (Nat.le_refl _) _) rfl, hHeld.2.below ((Below.refl _ _).alloc (Nat.le_refl _) _) rfl⟩
                          clear hK K
                          try simp only [List.getElem_toArray, List.getElem_cons_succ, List.getElem_cons_zero, Act.put, List.setIfInBounds_toArray, List.set_cons_zero, List.set_cons_succ]
                          refine wpAnyH_take (i := 12) (v := .string ⟨#[122]⟩) rfl (by kernel_rfl) (by kernel_rfl) (by kernel_rfl) (fun _ _ _ h => h) (Or.inl ⟨by rfl, fun w hSw => by (try dsimp only at hSw); go_simp⟩) hHeld ?_
                          try simp only [List.getElem_toArray, List.getElem_cons_succ, List.getElem_cons_zero, Act.put, List.setIfInBounds_toArray, List.set_cons_zero, List.set_cons_succ]
                          refine wpAnyH_ready (rs := [13]) (by kernel_rfl) (by simp) ?_
                          refine AllReadyH.cons rfl (fun K hK => ?_) ?_
                          · go_simp
                            refine hK.out _ _ ?_ (fun hHeld => ?_)
                            · exact ⟨HH5.out.1.below ((Below.refl _ _).alloc (Nat.le_refl _) _) rfl, HH5.out.2.below ((Below.refl _ _).alloc (Nat.le_refl _) _) rfl⟩
                            clear hK K
                            try simp only [List.getElem_toArray, List.getElem_cons_succ, List.getElem_cons_zero, Act.put, List.setIfInBounds_toArray, List.set_cons_zero, List.set_cons_succ]
                            refine wpAnyH_take (i := 14) (v := .int .i64 0) rfl (by kernel_rfl) (by kernel_rfl) (by kernel_rfl) (fun _ _ _ h => h) (Or.inl ⟨by rfl, fun w hSw => by (try dsimp only at hSw); go_simp⟩) hHeld ?_
                            try simp only [List.getElem_toArray, List.getElem_cons_succ, List.getElem_cons_zero, Act.put, List.setIfInBounds_toArray, List.set_cons_zero, List.set_cons_succ]
                            refine wpAnyH_done (by kernel_rfl) ?_ _
                            have CH5 := Lib.hid hHeld.1
                            have CC5 := Lib.hid hHeld.2
                            have CX5 := Lib.hid (CellSh.new s5)
                            have BX5 := Lib.hid (BE5.out.alloc BE5.out.size (.cells #[.int .i64 h2.room, .int .i64 h2.clock, .slice a5 h2.held.length k5] TS))
                            have z5 := b5.size
                            obtain ⟨D, hD⟩ : ∃ D, w5.heap.size = D := ⟨_, rfl⟩
                            have hBD : Bh < D ∧ Bc < D := by have : wr.drew.heap.size = wr.heap.size := rfl; omega
                            rw [hD] at CX5
                            obtain ⟨V, hV⟩ : ∃ V, w5.alloc (.cells #[.int .i64 h2.room, .int .i64 h2.clock, .slice a5 h2.held.length k5] TS) = V := ⟨_, rfl⟩
                            rw [hV] at CX5 BX5 CH5 CC5
                            have nxh : ¬ D = Bh := by omega
                            clear hHeld s5 BE5
                            obtain ⟨xc0, xc1, xc2, fc0, fc1, fc2⟩ := CC5.out.cells
                            obtain ⟨xh0, xh1, xh2, fh0, fh1, fh2⟩ := CH5.out.cells
                            obtain ⟨xx0, xx1, xx2, fx0, fx1, fx2⟩ := CX5.out.cells
                            have Pcy1 := Lib.hid (CH5.out.far CC5.out nch (.int .i64 h2.room) (.int .i64 h2.clock) (.slice a5 h2.held.length k5))
                            have Pxy1 := Lib.hid (CH5.out.far CX5.out nxh (.int .i64 h2.room) (.int .i64 h2.clock) (.slice a5 h2.held.length k5))
                            have Phy1 := Lib.hid (CH5.out.set CX5.out.sh)
                            have BPy1 := Lib.hid (Below.put3 (B := Bh) BX5.out (by omega) (.int .i64 h2.room) (.int .i64 h2.clock) (.slice a5 h2.held.length k5))
                            go_wp2
                            go_roundw
                            case rel => exact ⟨j + 1, by omega, by go_num, Lib.hid ⟨h2, _, _, Pcy1.out, Phy1.out, HT2.out, BPy1.out⟩⟩
                            case measure => simp [intOf]; omega
                          exact AllReadyH.nil
                        exact AllReadyH.nil
                      refine AllReadyH.cons rfl (fun K hK => ?_) ?_
                      · go_simp
                        refine hK.out _ _ ?_ (fun hHeld => ?_)
                        · exact ⟨hHeld.1.below ((Below.refl _ _).alloc (Nat.le_refl _) _) rfl, hHeld.2.below ((Below.refl _ _).alloc (Nat.le_refl _) _) rfl⟩
                        clear hK K
                        try simp only [List.getElem_toArray, List.getElem_cons_succ, List.getElem_cons_zero, Act.put, List.setIfInBounds_toArray, List.set_cons_zero, List.set_cons_succ]
                        refine wpAnyH_ready (rs := [6]) (by kernel_rfl) (by simp) ?_
                        refine AllReadyH.cons rfl (fun K hK => ?_) ?_
                        · go_simp
                          go_at_call 21
                          have hq5 := Lib.hid (take_lit hh ah kh (100 + (i : Int)) HTK.out _ LH2.out hHeld.1.sh (by omega) (by omega))
                          (with_reducible refine hq5.out.mono ?_)
                          clear hq5
                          rintro e w5 ⟨a5, k5, rfl, s5, b5⟩
                          have z5 := Lib.hid (zero_cell b5)
                          have BE5 := Lib.hid ((BL.out.alloc zr _).drew.trans (b5.mono (by show _ ≤ (wr.alloc (.cells #[.int .i64 0, .int .i64 0, .slice none 0 0] TS)).heap.size; rw [size_alloc']; exact Nat.le_succ_of_le zr)))
                          refine hK.out _ _ ?_ (fun hHeld => ?_)
                          · exact ⟨hHeld.1.below b5 rfl, hHeld.2.below b5 rfl⟩
                          clear hK K
                          try simp only [List.getElem_toArray, List.getElem_cons_succ, List.getElem_cons_zero, Act.put, List.setIfInBounds_toArray, List.set_cons_zero, List.set_cons_succ]
                          refine wpAnyH_take (i := 7) (v := .tuple #[.string ⟨#[122]⟩, .agg #[.int .i64 h2.room, .int .i64 h2.clock, .slice a5 h2.held.length k5], .int .i64 0]) rfl (by kernel_rfl) (by kernel_rfl) (by kernel_rfl) (fun _ _ _ h => h) (Or.inl ⟨by rfl, fun w hSw => by (try dsimp only at hSw); go_simp⟩) hHeld ?_
                          try simp only [List.getElem_toArray, List.getElem_cons_succ, List.getElem_cons_zero, Act.put, List.setIfInBounds_toArray, List.set_cons_zero, List.set_cons_succ]
                          refine wpAnyH_take (i := 8) (v := .string ⟨#[122]⟩) rfl (by kernel_rfl) (by kernel_rfl) (by kernel_rfl) (fun _ _ _ h => h) (Or.inl ⟨by rfl, fun w hSw => by (try dsimp only at hSw); go_simp⟩) hHeld ?_
                          try simp only [List.getElem_toArray, List.getElem_cons_succ, List.getElem_cons_zero, Act.put, List.setIfInBounds_toArray, List.set_cons_zero, List.set_cons_succ]
                          refine wpAnyH_take (i := 9) (v := .agg #[.int .i64 h2.room, .int .i64 h2.clock, .slice a5 h2.held.length k5]) rfl (by kernel_rfl) (by kernel_rfl) (by kernel_rfl) (fun _ _ _ h => h) (Or.inl ⟨by rfl, fun w hSw => by (try dsimp only at hSw); go_simp⟩) hHeld ?_
                          try simp only [List.getElem_toArray, List.getElem_cons_succ, List.getElem_cons_zero, Act.put, List.setIfInBounds_toArray, List.set_cons_zero, List.set_cons_succ]
                          refine wpAnyH_take (i := 10) (v := .int .i64 0) rfl (by kernel_rfl) (by kernel_rfl) (by kernel_rfl) (fun _ _ _ h => h) (Or.inl ⟨by rfl, fun w hSw => by (try dsimp only at hSw); go_simp⟩) hHeld ?_
                          try simp only [List.getElem_toArray, List.getElem_cons_succ, List.getElem_cons_zero, Act.put, List.setIfInBounds_toArray, List.set_cons_zero, List.set_cons_succ]
                          refine wpAnyH_take (i := 12) (v := .string ⟨#[122]⟩) rfl (by kernel_rfl) (by kernel_rfl) (by kernel_rfl) (fun _ _ _ h => h) (Or.inl ⟨by rfl, fun w hSw => by (try dsimp only at hSw); go_simp⟩) hHeld ?_
                          try simp only [List.getElem_toArray, List.getElem_cons_succ, List.getElem_cons_zero, Act.put, List.setIfInBounds_toArray, List.set_cons_zero, List.set_cons_succ]
                          refine wpAnyH_ready (rs := [13]) (by kernel_rfl) (by simp) ?_
                          refine AllReadyH.cons rfl (fun K hK => ?_) ?_
                          · obtain ⟨y0, y1, y2, g0, g1, g2⟩ := z5.out.cells
                            go_simp
                            refine hK.out _ _ ?_ (fun hHeld => ?_)
                            · exact ⟨CellSh.far z5.out hHeld.1 (by omega) _ _ _, CellSh.far z5.out hHeld.2 (by omega) _ _ _⟩
                            clear hK K
                            try simp only [List.getElem_toArray, List.getElem_cons_succ, List.getElem_cons_zero, Act.put, List.setIfInBounds_toArray, List.set_cons_zero, List.set_cons_succ]
                            refine wpAnyH_take (i := 14) (v := .int .i64 0) rfl (by kernel_rfl) (by kernel_rfl) (by kernel_rfl) (fun _ _ _ h => h) (Or.inl ⟨by rfl, fun w hSw => by (try dsimp only at hSw); go_simp⟩) hHeld ?_
                            try simp only [List.getElem_toArray, List.getElem_cons_succ, List.getElem_cons_zero, Act.put, List.setIfInBounds_toArray, List.set_cons_zero, List.set_cons_succ]
                            refine wpAnyH_done (by kernel_rfl) ?_ _
                            have CH5 := Lib.hid hHeld.1
                            have CC5 := Lib.hid hHeld.2
                            have CX5 := Lib.hid (z5.out.set s5)
                            have BX5 := Lib.hid (Below.put3 (B := wr.heap.size) BE5.out zr (.int .i64 h2.room) (.int .i64 h2.clock) (.slice a5 h2.held.length k5))
                            obtain ⟨D, hD⟩ : ∃ D, wr.heap.size = D := ⟨_, rfl⟩
                            have hBD : Bh < D ∧ Bc < D := by omega
                            rw [hD] at CX5 BX5 CH5 CC5
                            obtain ⟨V, hV⟩ : ∃ V, put3 w5 D (.int .i64 h2.room) (.int .i64 h2.clock) (.slice a5 h2.held.length k5) = V := ⟨_, rfl⟩
                            unfold put3 at hV CX5 BX5
                            rw [hV] at CX5 BX5 CH5 CC5
                            have nxh : ¬ D = Bh := by omega
                            clear hHeld s5 BE5
                            obtain ⟨xc0, xc1, xc2, fc0, fc1, fc2⟩ := CC5.out.cells
                            obtain ⟨xh0, xh1, xh2, fh0, fh1, fh2⟩ := CH5.out.cells
                            obtain ⟨xx0, xx1, xx2, fx0, fx1, fx2⟩ := CX5.out.cells
                            have Pcy1 := Lib.hid (CH5.out.far CC5.out nch (.int .i64 h2.room) (.int .i64 h2.clock) (.slice a5 h2.held.length k5))
                            have Pxy1 := Lib.hid (CH5.out.far CX5.out nxh (.int .i64 h2.room) (.int .i64 h2.clock) (.slice a5 h2.held.length k5))
                            have Phy1 := Lib.hid (CH5.out.set CX5.out.sh)
                            have BPy1 := Lib.hid (Below.put3 (B := Bh) BX5.out (by omega) (.int .i64 h2.room) (.int .i64 h2.clock) (.slice a5 h2.held.length k5))
                            go_wp2
                            go_roundw
                            case rel => exact ⟨j + 1, by omega, by go_num, Lib.hid ⟨h2, _, _, Pcy1.out, Phy1.out, HT2.out, BPy1.out⟩⟩
                            case measure => simp [intOf]; omega
                          exact AllReadyH.nil
                        exact AllReadyH.nil
                      exact AllReadyH.nil
                    · obtain rfl : rn = j := by omega
                      rw [hln] at xh2
                      go_wp2
                      go_ret
                      exact ⟨rfl, BL.out⟩
            exact AllReadyH.nil
          exact AllReadyH.nil
        exact AllReadyH.nil
      exact AllReadyH.nil
    exact AllReadyH.nil
  exact AllReadyH.nil

set_option maxRecDepth 100000 in
set_option maxHeartbeats 400000 in
theorem lifted (os : Os) (started : os.Started) (H : Type) (enc : TypeId × Value → H) :
    ReturnsInHanded {} Try.checked os 8 .any (Rows.cacheSameSpec.pre6 enc Try.prog Try.f8 Rows.cacheSameRow.domain false) (Rows.cacheSameSpec.post enc Try.prog Try.f8 false true false false) := by
  refine returnsInHanded_of_change (C := Try.checked) own started (by kernel_rfl) Try.func8
    (ChangeSpec.witness6 (enc := enc) (C := Try.checked) false ⟨#[], #[.int .i64 0, .slice none 0 0, .int .i64 0, .int .i64 0], []⟩ 8 (by kernel_rfl) (by kernel_rfl) (by kernel_rfl) (by kernel_rfl)) ?_
  intro W base args ds gs before hval0 hW hcnd _
  have hval : ∀ (j : Nat) t v, Try.f8.params[j]? = some t → args[j]? = some v → Value.okWide Try.prog W .any base t v := hval0
  have hW' := hW
  obtain ⟨p, q, hA0, hV, rfl, hfz, hnd⟩ := hW
  have hA : DataW.TrodAll enc Try.prog W 0 (fun _ => true) true Try.f8.params.toList args.toList ds p := hA0
  rw [Try.params8] at hA hval
  obtain ⟨v0, vs0, d0, ds0, p0, q0, hargs, rfl, rfl, h0, r0⟩ := trodAll_cons hA
  obtain ⟨v1, vs1, d1, ds1, p1, q1, rfl, rfl, rfl, h1, r1⟩ := trodAll_cons r0
  obtain ⟨v2, vs2, d2, ds2, p2, q2, rfl, rfl, rfl, h2, r2⟩ := trodAll_cons r1
  obtain ⟨v3, vs3, d3, ds3, p3, q3, rfl, rfl, rfl, h3, r3⟩ := trodAll_cons r2
  obtain ⟨rfl, rfl, rfl⟩ := trodAll_nil r3
  obtain rfl : args = #[v0, v1, v2, v3] := by cases args; simp_all
  obtain ⟨rfl, rfl⟩ := trodVars_none hV
  obtain ⟨a0, rfl, rfl, rfl, w0⟩ := open_int Try.underlying3 (hval 0 3 v0 rfl rfl) h0
  obtain ⟨a1, len1, cap1, rfl⟩ := okWide_slice Try.underlying22 (hval 1 22 v1 rfl rfl)
  have k1 := h1
  have lt1 : ∀ x ∈ p1, x.block < W.heap.size := by obtain ⟨m, hm⟩ := k1; exact DataW.trod_lt m _ _ _ hm
  obtain ⟨z1, w1⟩ : ∃ g, Kit.IsPairs .i64 W a1 len1 cap1 g := Kit.open_pairs Try.underlying22 Try.underlying45 Try.underlying3 (by kernel_rfl) (by kernel_rfl) h1
  obtain ⟨a2, rfl, rfl, rfl, w2⟩ := open_int Try.underlying3 (hval 2 3 v2 rfl rfl) h2
  obtain ⟨a3, rfl, rfl, rfl, w3⟩ := open_int Try.underlying3 (hval 3 3 v3 rfl rfl) h3
  clear hA0 hval0
  refine (walk a0 a1 len1 cap1 z1 a2 a3 W w0 w1 w2 w3).mono fun e W' ⟨he, bel⟩ => ?_
  subst he
  exact ⟨_, rfl, _, _, _, [], _, [], hW', trodAll_mk1 (shut_bool Try.underlying4 _), (trodAll_cons_mk (shut_int Try.underlying3 w0) (trodAll_cons_mk (Below.trod laidOut (by kernel_rfl) (of_decide_eq_true (by kernel_rfl)) k1 bel lt1) (trodAll_cons_mk (shut_int Try.underlying3 w2) (trodAll_cons_mk (shut_int Try.underlying3 w3) trodAll_mk0)))), rfl, bel.frame _, fun h => by cases h⟩

theorem over : Rows.cacheSameRow.holds Try.pinned (OpenSpec.ofChange Rows.cacheSameSpec) :=
  OpenClaim.holds_of_wide 8 Try.f8 rfl rfl rfl rfl rfl rfl rfl ⟨rfl, rfl, rfl, rfl, rfl⟩ rfl rfl rfl rfl rfl (by kernel_rfl) Try.func8 (by kernel_rfl)
    (of_decide_eq_true (by kernel_rfl)) (by unfold Func.isWrapper; first | (rw [if_pos (by decide +kernel)]; kernel_rfl) | (rw [if_neg (by decide +kernel)]; exact ⟨rfl, rfl⟩))
    (fun os started H enc _ => lifted os started H enc)

theorem proved : Rows.CacheSameSaid := over
#print axioms proved
end Go.Proofs.Ytpkhafijmbgcnaa.cacheSame
