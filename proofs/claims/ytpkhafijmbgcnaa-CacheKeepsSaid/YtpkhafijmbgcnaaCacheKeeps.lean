/-
  The law CacheKeeps of chapter 21 returns true: what is kept is there, and is used last; all others are there as they were, but the one that goes; who takes changes no text.
  For every input: no condition.
-/
import Derived.Test.YtpkhafijmbgcnaaRows
import Derived.Test.YtpkhafijmbgcnaaDLaw2
import Derived.Test.YtpkhafijmbgcnaaKPlain
import Derived.WalkLawsBesides
import Derived.WalkSpells
import Derived.Lib.Hide
import Derived.BigQuiet
import Derived.WalkKit
import Derived.ProofKit
import Derived.OpenShut
import Derived.ShutString
import Derived.ChangeOld
import Derived.Below
import Derived.Test.YtpkhafijmbgcnaaKit
namespace Go.Proofs.Ytpkhafijmbgcnaa.cacheKeeps
set_option linter.unusedVariables false
open Go.RowKit
open Cache Go.Shelf
open Go.ChangeShapes Go.WideShapes Go.ChangeAt Go.RowKit
open Go.ChangeMaps (open_string shut_string)

theorem own : ownKnob Try.prog.godebug = none := by kernel_rfl
theorem laidOut : laidOutB Try.prog = true := by kernel_rfl

theorem there_snoc (k : Int) (l : List Hd) (x : Hd) : there k (l ++ [x]) = if x.blk = k then 1 else there k l := by
  unfold there find
  rw [List.find?_append]
  by_cases h : x.blk = k
  · rw [if_pos h]
    cases hf : l.find? (fun x => decide (x.blk = k)) <;> simp [h]
  · rw [if_neg h]
    cases hf : l.find? (fun x => decide (x.blk = k)) <;> simp [h]
theorem there_le (k : Int) (l : List Hd) : there k l ≤ 1 := by unfold there; split <;> omega
set_option maxRecDepth 100000 in
set_option maxHeartbeats 4000000 in
theorem walk (a0 : Int) (a1 : Option Addr) (len1 cap1 : Nat) (z1 : Nat → Int × Int) (a2 : Int) (a3 : ByteArray) (w : World) (w0 : (Lit.int .i64 a0).wf = true) (w1 : Kit.IsPairs .i64 w a1 len1 cap1 z1) (w2 : (Lit.int .i64 a2).wf = true) (w3 : a3.size ≤ maxLen) :
    Calls Try.prog 6 #[.int .i64 a0, .slice a1 len1 cap1, .int .i64 a2, .string a3] w fun e w' => e = .returned (.bool true) ∧ Below w.heap.size w w' := by
  have HPR := Lib.hid w1
  obtain ⟨l0, u0⟩ := bounds_i64 w0
  obtain ⟨l2, u2⟩ := bounds_i64 w2
  obtain ⟨kn, hkn, hpk⟩ := pick_nat a2 9 l2 u2 (by omega) (by omega) 9 rfl
  have HPK := Lib.hid hpk
  clear w0 w1 w2 hpk l2 u2
  go_enter Try.func6, Try.ntmps6
  go_wp2_with fail
  refine (awake_any _).mono ?_
  rintro e w1 ⟨rfl, b1⟩
  have BL0 := Lib.hid b1
  have HPR1 := Lib.hid (pairs_below HPR.out b1)
  clear b1
  go_wp2_with fail
  have hsl := Lib.hid (Shelf_lit a0 a1 len1 cap1 z1 l0 u0 w1 HPR1.out)
  (with_reducible refine hsl.out.mono ?_)
  clear hsl
  rintro e w2 ⟨c, ac, kc, rfl, s2, hsm, b2⟩
  have hcr := hsm.1
  have hcl := hsm.2.2.1
  have hc6 := hsm.len
  obtain ⟨k, hk⟩ : ∃ k : Int, (kn : Int) = k := ⟨_, rfl⟩
  have hk0 : 0 ≤ k := by omega
  have hk9 : k ≤ 8 := by omega
  rw [hk] at HPK
  obtain ⟨g, d, f, hkeep⟩ := keeps_of hcr (by omega) k hk0 a3
  have HK := Lib.hid hkeep
  have HCR := Lib.hid hcr
  have LC := Lib.hid (show c.held.length ≤ 1000000 by omega)
  have LD := Lib.hid (show d.held.length ≤ 1000000 by have := hkeep.rd.2.2.2.2.1; have := hkeep.rd.2.1; omega)
  have LF := Lib.hid (show f.held.length ≤ 1000000 by have := hkeep.rf.2.2.2.2.1; have := hkeep.rf.2.1; omega)
  have hcl0 := hcr.2.2.1
  clear hkeep hcr hsm hk
  have Cc2 := Lib.hid (CellSh.new s2)
  have BL2 := Lib.hid ((BL0.out.trans (b2.mono BL0.out.size)).alloc (Nat.le_trans BL0.out.size b2.size) (.cells #[.int .i64 c.room, .int .i64 c.clock, .slice ac c.held.length kc] TS))
  have z2 := Nat.le_trans BL0.out.size b2.size
  obtain ⟨Bc, hc⟩ : ∃ B, w2.heap.size = B := ⟨_, rfl⟩
  rw [hc] at Cc2 z2
  obtain ⟨V2, hV2⟩ : ∃ V, w2.alloc (.cells #[.int .i64 c.room, .int .i64 c.clock, .slice ac c.held.length kc] TS) = V := ⟨_, rfl⟩
  rw [hV2] at BL2 Cc2
  clear s2 b2
  obtain ⟨xc0, xc1, xc2, fc0, fc1, fc2⟩ := Cc2.out.cells
  go_wp2_with fail
  clear hV2 hc
  clear xc0 xc1 xc2 fc0 fc1 fc2
  refine (HPK.out _).mono ?_
  rintro e w9 ⟨rfl, rfl⟩
  obtain ⟨xc0, xc1, xc2, fc0, fc1, fc2⟩ := Cc2.out.cells
  go_wp2_with fail
  clear xc0 xc1 xc2 fc0 fc1 fc2
  have hqi1 := Lib.hid (keep_lit c ac kc k a3 HK.out.keepE _ LC.out Cc2.out.sh (by omega) (by omega))
  (with_reducible refine hqi1.out.mono ?_)
  clear hqi1
  rintro e wi1 ⟨ai1, ki1, rfl, si1, bi1⟩
  have Cci1 := Lib.hid ((Cc2.out.below bi1 rfl).below ((Below.refl _ _).alloc (Nat.le_refl _) (.cells #[.int .i64 d.room, .int .i64 d.clock, .slice ai1 d.held.length ki1] TS)) rfl)
  have lci1 := (Cc2.out.below bi1 rfl).lt
  have Cdi1 := CellSh.new si1
  have BLi1 := Lib.hid ((BL2.out.trans (bi1.mono BL2.out.size)).alloc (Nat.le_trans BL2.out.size bi1.size) (.cells #[.int .i64 d.room, .int .i64 d.clock, .slice ai1 d.held.length ki1] TS))
  have zi1 := Nat.le_trans BL2.out.size bi1.size
  obtain ⟨Bd, hd⟩ : ∃ B, wi1.heap.size = B := ⟨_, rfl⟩
  rw [hd] at Cdi1 zi1 lci1
  have ncd : ¬ Bc = Bd := by omega
  have ndc : ¬ Bd = Bc := by omega
  have Ddi1 := Lib.hid Cdi1
  clear bi1 si1 Cdi1
  obtain ⟨Vi1, hVi1⟩ : ∃ V, wi1.alloc (.cells #[.int .i64 d.room, .int .i64 d.clock, .slice ai1 d.held.length ki1] TS) = V := ⟨_, rfl⟩
  rw [hVi1] at BLi1 Ddi1 Cci1
  obtain ⟨xc0, xc1, xc2, fc0, fc1, fc2⟩ := Cci1.out.cells
  obtain ⟨xd0, xd1, xd2, fd0, fd1, fd2⟩ := Ddi1.out.cells
  go_wp2_with fail
  clear hVi1 hd
  clear xc0 xc1 xc2 fc0 fc1 fc2 xd0 xd1 xd2 fd0 fd1 fd2
  have hqi2 := Lib.hid (take_lit d ai1 ki1 k HK.out.takeE _ LD.out Ddi1.out.sh (by omega) (by omega))
  (with_reducible refine hqi2.out.mono ?_)
  clear hqi2
  rintro e wi2 ⟨ai2, ki2, rfl, si2, bi2⟩
  have Cci2 := Lib.hid ((Cci1.out.below bi2 rfl).below ((Below.refl _ _).alloc (Nat.le_refl _) (.cells #[.int .i64 f.room, .int .i64 f.clock, .slice ai2 f.held.length ki2] TS)) rfl)
  have lci2 := (Cci1.out.below bi2 rfl).lt
  have Cdi2 := Lib.hid ((Ddi1.out.below bi2 rfl).below ((Below.refl _ _).alloc (Nat.le_refl _) (.cells #[.int .i64 f.room, .int .i64 f.clock, .slice ai2 f.held.length ki2] TS)) rfl)
  have ldi2 := (Ddi1.out.below bi2 rfl).lt
  have Cfi2 := CellSh.new si2
  have BLi2 := Lib.hid ((BLi1.out.trans (bi2.mono BLi1.out.size)).alloc (Nat.le_trans BLi1.out.size bi2.size) (.cells #[.int .i64 f.room, .int .i64 f.clock, .slice ai2 f.held.length ki2] TS))
  have zi2 := Nat.le_trans BLi1.out.size bi2.size
  obtain ⟨Bf, hf⟩ : ∃ B, wi2.heap.size = B := ⟨_, rfl⟩
  rw [hf] at Cfi2 zi2 lci2 ldi2
  have ncf : ¬ Bc = Bf := by omega
  have nfc : ¬ Bf = Bc := by omega
  have ndf : ¬ Bd = Bf := by omega
  have nfd : ¬ Bf = Bd := by omega
  have Dfi2 := Lib.hid Cfi2
  clear bi2 si2 Cfi2
  obtain ⟨Vi2, hVi2⟩ : ∃ V, wi2.alloc (.cells #[.int .i64 f.room, .int .i64 f.clock, .slice ai2 f.held.length ki2] TS) = V := ⟨_, rfl⟩
  rw [hVi2] at BLi2 Dfi2 Cci2 Cdi2
  have q1 : (g == k) = false := by rw [beq_eq_false_iff_ne]; exact HK.out.ne
  have q2 : IntKind.i64.wrap (c.clock + 1) = c.clock + 1 := IntWalk.i64_in _ ⟨by omega, by omega⟩
  have q3 : IntKind.i64.wrap (c.clock + 2) = c.clock + 2 := IntWalk.i64_in _ ⟨by omega, by omega⟩
  obtain ⟨xc0, xc1, xc2, fc0, fc1, fc2⟩ := Cci2.out.cells
  obtain ⟨xd0, xd1, xd2, fd0, fd1, fd2⟩ := Cdi2.out.cells
  obtain ⟨xf0, xf1, xf2, ff0, ff1, ff2⟩ := Dfi2.out.cells
  rw [HK.out.clockD] at xd1
  rw [HK.out.room] at xd0
  rw [HK.out.clockF] at xf1
  go_wp2
  clear hVi2 hf
  clear q1 q2 q3 xc0 xc1 xc2 fc0 fc1 fc2 xd0 xd1 xd2 fd0 fd1 fd2 xf0 xf1 xf2 ff0 ff1 ff2
  obtain ⟨n, hn⟩ : ∃ n, c.held.length = n := ⟨_, rfl⟩
  have HN := Lib.hid hn
  have hn6 : n ≤ 6 := by omega
  have HCV := Cci2
  have HFV := Dfi2
  obtain ⟨V, hV⟩ : ∃ V, Vi2 = V := ⟨_, rfl⟩
  rw [hV] at HCV HFV BLi2 ⊢
  have BLV := BLi2
  have lcV := HCV.out.lt
  have lfV := HFV.out.lt
  clear hV hn
  go_loopw [18, 19] (fun v i wr => ∃ j : Nat, j ≤ n ∧ i = .int .i64 j ∧ v = .int .i64 (there k (c.held.take j) : Nat) ∧ RowKit.Hid (Below V.heap.size V wr)) (fun _ i _ => n - (intOf i).toNat)
  case atStart => exact ⟨0, by omega, rfl, rfl, Lib.hid (Below.refl _ _)⟩
  case round =>
    obtain ⟨j, hj, rfl, rfl, hb⟩ := hrel
    have HCW := Lib.hid (HCV.out.below hb.out rfl)
    have HFW := Lib.hid (HFV.out.below hb.out rfl)
    have zr := hb.out.size
    by_cases hlt : j < n
    · have hjl : j < c.held.length := by rw [HN.out]; exact hlt
      obtain ⟨b, off, ha, hbl, e0, e1, e2⟩ := HCW.out.sh.src.at_ j hjl
      subst ha
      obtain ⟨x, hx⟩ : ∃ x, c.held[j] = x := ⟨_, rfl⟩
      have hmem : x ∈ c.held := by rw [← hx]; exact List.getElem_mem _
      have hsn : there k (c.held.take (j + 1)) = if x.blk = k then 1 else there k (c.held.take j) := by rw [take_snoc c.held j hjl, there_snoc, hx]
      have htl := there_le k (c.held.take j)
      have hbx := HCR.out.2.2.2.2.2.1 x hmem
      have hwx := HCW.out.sh.wf x hmem
      rw [hx] at e0 e1 e2
      obtain ⟨T, hT⟩ : ∃ T, there k (c.held.take j) = T := ⟨_, rfl⟩
      rw [hT] at hsn htl ⊢
      have HS := HK.out.self
      have HO := fun h1 h2 => HK.out.other x hmem h1 h2
      have HG := fun h1 h2 => HK.out.gone x hmem h1 h2
      obtain ⟨xb, xs, xt⟩ := x
      simp only at e0 e1 e2 hsn hbx hwx HO HG
      have HSN := Lib.hid hsn
      have hcase : (∃ f', take f xb = (a3, f', 0) ∧ xb = k) ∨ (¬ xb = k ∧ ¬ xb = g ∧ ∃ f', take f xb = (xt, f', 0)) ∨ (¬ xb = k ∧ xb = g ∧ ∃ f', take f xb = (⟨#[]⟩, f', 5)) := by
        by_cases h1 : xb = k
        · left; rw [h1]; obtain ⟨f', h⟩ := HS; exact ⟨f', h, rfl⟩
        · by_cases h2 : xb = g
          · exact .inr (.inr ⟨h1, h2, _, HG h1 h2⟩)
          · obtain ⟨f', h⟩ := HO h1 h2
            exact .inr (.inl ⟨h1, h2, f', h⟩)
      have HCASE := Lib.hid hcase
      obtain ⟨xc0, xc1, xc2, fc0, fc1, fc2⟩ := HCW.out.cells
      obtain ⟨W0, hW0⟩ : ∃ W0, wr.alloc (.cells #[.int .i64 xb, .int .i64 xs, .string xt] TH) = W0 := ⟨_, rfl⟩
      have hbw : Below wr.heap.size wr W0 := by rw [← hW0]; exact (Below.refl _ _).alloc (Nat.le_refl _) _
      have HF0 := Lib.hid (HFW.out.below hbw rfl)
      have HBX := Lib.hid (show HBox W0 wr.heap.size ⟨xb, xs, xt⟩ by rw [← hW0]; exact HBox.new wr ⟨xb, xs, xt⟩)
      have HB0 := Lib.hid (hb.out.trans (hbw.mono zr))
      have zw : wr.heap.size < W0.heap.size := HBX.out.lt
      obtain ⟨d0, d1, d2⟩ := HBX.out.at_
      obtain ⟨xf0, xf1, xf2, ff0, ff1, ff2⟩ := HF0.out.cells
      simp only at d0 d1 d2
      clear hx hmem hsn hT HS HO HG hcase hbw
      go_wp2_with fail
      clear hW0 e0 e1 e2 d0 d1 d2 xc0 xc1 xc2 fc0 fc1 fc2 xf0 xf1 xf2 ff0 ff1 ff2
      rcases HCASE.out with ⟨f', htk, h1⟩ | ⟨h1, h2, f', htk⟩ | ⟨h1, h2, f', htk⟩
      · have HTK := Lib.hid htk
        clear htk
        have hq := Lib.hid (take_lit f ai2 ki2 xb HTK.out W0 LF.out HF0.out.sh (by omega) (by omega))
        (with_reducible refine hq.out.mono ?_)
        clear hq
        rintro e w5 ⟨a5, k5, rfl, s5, b5⟩
        obtain ⟨V5, hV5⟩ : ∃ V, w5.alloc (.cells #[.int .i64 f'.room, .int .i64 f'.clock, .slice a5 f'.held.length k5] TS) = V := ⟨_, rfl⟩
        have hb5 : Below W0.heap.size W0 V5 := by rw [← hV5]; exact b5.alloc b5.size _
        obtain ⟨d0, d1, d2⟩ := HBox.at_ ((hb5.block _ zw).trans HBX.out)
        have HE := Lib.hid (HB0.out.trans (hb5.mono HB0.out.size))
        simp only at d0 d1 d2
        have HS2 := Lib.hid (show there k (c.held.take (j + 1)) = 1 by rw [HSN.out, if_pos h1])
        have t1 : (xb == k) = true := by simpa using h1
        clear h1
        clear b5 s5 hb5
        go_wp2
        go_roundw
        case rel => exact ⟨j + 1, by omega, by go_num, by rw [HS2.out]; rfl, HE⟩
        case measure => simp [intOf]; omega
      · have HTK := Lib.hid htk
        clear htk
        have hq := Lib.hid (take_lit f ai2 ki2 xb HTK.out W0 LF.out HF0.out.sh (by omega) (by omega))
        (with_reducible refine hq.out.mono ?_)
        clear hq
        rintro e w5 ⟨a5, k5, rfl, s5, b5⟩
        obtain ⟨V5, hV5⟩ : ∃ V, w5.alloc (.cells #[.int .i64 f'.room, .int .i64 f'.clock, .slice a5 f'.held.length k5] TS) = V := ⟨_, rfl⟩
        have hb5 : Below W0.heap.size W0 V5 := by rw [← hV5]; exact b5.alloc b5.size _
        obtain ⟨d0, d1, d2⟩ := HBox.at_ ((hb5.block _ zw).trans HBX.out)
        have HE := Lib.hid (HB0.out.trans (hb5.mono HB0.out.size))
        simp only at d0 d1 d2
        have HS2 := Lib.hid (show there k (c.held.take (j + 1)) = T by rw [HSN.out, if_neg h1])
        have t1 : (xb == k) = false := by simpa using h1
        have t2 : (xb != g) = true := by simpa using h2
        clear h1 h2
        clear b5 s5 hb5
        go_wp2
        go_roundw
        case rel => exact ⟨j + 1, by omega, by go_num, by rw [HS2.out], HE⟩
        case measure => simp [intOf]; omega
      · have HTK := Lib.hid htk
        clear htk
        have hq := Lib.hid (take_lit f ai2 ki2 xb HTK.out W0 LF.out HF0.out.sh (by omega) (by omega))
        (with_reducible refine hq.out.mono ?_)
        clear hq
        rintro e w5 ⟨a5, k5, rfl, s5, b5⟩
        obtain ⟨V5, hV5⟩ : ∃ V, w5.alloc (.cells #[.int .i64 f'.room, .int .i64 f'.clock, .slice a5 f'.held.length k5] TS) = V := ⟨_, rfl⟩
        have hb5 : Below W0.heap.size W0 V5 := by rw [← hV5]; exact b5.alloc b5.size _
        obtain ⟨d0, d1, d2⟩ := HBox.at_ ((hb5.block _ zw).trans HBX.out)
        have HE := Lib.hid (HB0.out.trans (hb5.mono HB0.out.size))
        simp only at d0 d1 d2
        have HS2 := Lib.hid (show there k (c.held.take (j + 1)) = T by rw [HSN.out, if_neg h1])
        have t1 : (xb == k) = false := by simpa using h1
        have t2 : (xb != g) = false := by simp [h2]
        clear h1 h2
        clear b5 s5 hb5
        go_wp2
        go_roundw
        case rel => exact ⟨j + 1, by omega, by go_num, by rw [HS2.out], HE⟩
        case measure => simp [intOf]; omega
    · obtain rfl : n = j := by omega
      have htk : there k (c.held.take n) = there k c.held := by rw [List.take_of_length_le (by rw [HN.out]; exact Nat.le_refl _)]
      obtain ⟨r, hr⟩ := HK.out.first
      have hcnt := HK.out.count
      have htl := there_le k c.held
      obtain ⟨T, hT⟩ : ∃ T, there k c.held = T := ⟨_, rfl⟩
      rw [hT] at hcnt htl htk
      rw [htk]
      rw [HN.out] at hcnt
      obtain ⟨F, hF⟩ : ∃ F, f.held.length = F := ⟨_, rfl⟩
      rw [hF] at hcnt
      have HFL := Lib.hid hF
      have hol : (k :: r).length = F := by rw [← hr, order_len HK.out.rf, hF]
      have HOL := Lib.hid hol
      have hF0 : 0 < F := by rw [← hol]; simp
      have HO := Lib.hid (order_lit f ai2 ki2 hr wr LF.out HFW.out.sh.src)
      obtain ⟨xc0, xc1, xc2, fc0, fc1, fc2⟩ := HCW.out.cells
      obtain ⟨xf0, xf1, xf2, ff0, ff1, ff2⟩ := HFW.out.cells
      rw [HN.out] at xc2
      have HCNT := Lib.hid hcnt
      have hTc : T = 0 ∨ T = 1 := by omega
      have HTC := Lib.hid hTc
      clear hr hol hF hT htk hcnt hTc htl
      go_wp2_with fail
      (with_reducible refine HO.out.mono ?_)
      clear HO xc0 xc1 xc2 fc0 fc1 fc2 xf0 xf1 xf2 ff0 ff1 ff2
      rintro e w6 ⟨ao, ko, rfl, so, b6⟩
      rw [HOL.out]
      have HCX := Lib.hid (HCW.out.below b6 rfl)
      have HFX := Lib.hid (HFW.out.below b6 rfl)
      have HE := Lib.hid (BLV.out.trans ((hb.out.trans (b6.mono zr)).mono BLV.out.size))
      obtain ⟨xc0, xc1, xc2, fc0, fc1, fc2⟩ := HCX.out.cells
      obtain ⟨xf0, xf1, xf2, ff0, ff1, ff2⟩ := HFX.out.cells
      rw [HN.out] at xc2
      rw [HFL.out] at xf2
      obtain ⟨go, oo, hgo, hco⟩ := so.src 0 (inum k) rfl
      subst hgo
      unfold inum at hco
      have hco2 : w6.cell? ⟨go, oo, none⟩ = some (.int .i64 k) := hco
      have t0 : (k == k) = true := by simp
      clear b6 so hco
      rcases HCNT.out with ⟨c1, c2⟩ | ⟨c1, c2, c3, c4⟩
      · rcases HTC.out with rfl | rfl
        · have hFn : F = n + 1 := by omega
          subst hFn
          clear c2
          go_wp2
          go_ret
          exact ⟨rfl, HE.out⟩
        · have hFn : F = n := by omega
          subst hFn
          clear c2
          go_wp2
          go_ret
          exact ⟨rfl, HE.out⟩
      · subst c2
        subst c3
        have t1 : ((F : Int) == c.room) = true := by rw [c4]; simp
        clear c4
        go_wp2
        go_ret
        exact ⟨rfl, HE.out⟩

set_option maxRecDepth 100000 in
set_option maxHeartbeats 400000 in
theorem lifted (os : Os) (started : os.Started) (H : Type) (enc : TypeId × Value → H) :
    ReturnsInHanded {} Try.checked os 6 .any (Rows.cacheKeepsSpec.pre6 enc Try.prog Try.f6 Rows.cacheKeepsRow.domain false) (Rows.cacheKeepsSpec.post enc Try.prog Try.f6 false true false false) := by
  refine returnsInHanded_of_change (C := Try.checked) own started (by kernel_rfl) Try.func6
    (ChangeSpec.witness6 (enc := enc) (C := Try.checked) false ⟨#[], #[.int .i64 0, .slice none 0 0, .int .i64 0, .string ByteArray.empty], []⟩ 8 (by kernel_rfl) (by kernel_rfl) (by kernel_rfl) (by kernel_rfl)) ?_
  intro W base args ds gs before hval0 hW hcnd _
  have hval : ∀ (j : Nat) t v, Try.f6.params[j]? = some t → args[j]? = some v → Value.okWide Try.prog W .any base t v := hval0
  have hW' := hW
  obtain ⟨p, q, hA0, hV, rfl, hfz, hnd⟩ := hW
  have hA : DataW.TrodAll enc Try.prog W 0 (fun _ => true) true Try.f6.params.toList args.toList ds p := hA0
  rw [Try.params6] at hA hval
  obtain ⟨v0, vs0, d0, ds0, p0, q0, hargs, rfl, rfl, h0, r0⟩ := trodAll_cons hA
  obtain ⟨v1, vs1, d1, ds1, p1, q1, rfl, rfl, rfl, h1, r1⟩ := trodAll_cons r0
  obtain ⟨v2, vs2, d2, ds2, p2, q2, rfl, rfl, rfl, h2, r2⟩ := trodAll_cons r1
  obtain ⟨v3, vs3, d3, ds3, p3, q3, rfl, rfl, rfl, h3, r3⟩ := trodAll_cons r2
  obtain ⟨rfl, rfl, rfl⟩ := trodAll_nil r3
  obtain rfl : args = #[v0, v1, v2, v3] := by cases args; simp_all
  obtain ⟨rfl, rfl⟩ := trodVars_none hV
  obtain ⟨a0, rfl, rfl, rfl, w0⟩ := open_int Try.underlying3 (hval 0 3 v0 rfl rfl) h0
  obtain ⟨a1, len1, cap1, rfl⟩ := okWide_slice Try.underlying22 (hval 1 22 v1 rfl rfl)
  have k1 := h1
  have lt1 : ∀ x ∈ p1, x.block < W.heap.size := by obtain ⟨m, hm⟩ := k1; exact DataW.trod_lt m _ _ _ hm
  obtain ⟨z1, w1⟩ : ∃ g, Kit.IsPairs .i64 W a1 len1 cap1 g := Kit.open_pairs Try.underlying22 Try.underlying45 Try.underlying3 (by kernel_rfl) (by kernel_rfl) h1
  obtain ⟨a2, rfl, rfl, rfl, w2⟩ := open_int Try.underlying3 (hval 2 3 v2 rfl rfl) h2
  obtain ⟨a3, rfl, rfl, rfl, w3⟩ := open_string Try.underlying9 (hval 3 9 v3 rfl rfl) h3
  clear hA0 hval0
  refine (walk a0 a1 len1 cap1 z1 a2 a3 W w0 w1 w2 w3).mono fun e W' ⟨he, bel⟩ => ?_
  subst he
  exact ⟨_, rfl, _, _, _, [], _, [], hW', trodAll_mk1 (shut_bool Try.underlying4 _), (trodAll_cons_mk (shut_int Try.underlying3 w0) (trodAll_cons_mk (Below.trod laidOut (by kernel_rfl) (of_decide_eq_true (by kernel_rfl)) k1 bel lt1) (trodAll_cons_mk (shut_int Try.underlying3 w2) (trodAll_cons_mk (shut_string Try.underlying9 w3) trodAll_mk0)))), rfl, bel.frame _, fun h => by cases h⟩

theorem over : Rows.cacheKeepsRow.holds Try.pinned (OpenSpec.ofChange Rows.cacheKeepsSpec) :=
  OpenClaim.holds_of_wide 6 Try.f6 rfl rfl rfl rfl rfl rfl rfl ⟨rfl, rfl, rfl, rfl, rfl⟩ rfl rfl rfl rfl rfl (by kernel_rfl) Try.func6 (by kernel_rfl)
    (of_decide_eq_true (by kernel_rfl)) (by unfold Func.isWrapper; first | (rw [if_pos (by decide +kernel)]; kernel_rfl) | (rw [if_neg (by decide +kernel)]; exact ⟨rfl, rfl⟩))
    (fun os started H enc _ => lifted os started H enc)

theorem proved : Rows.CacheKeepsSaid := over
#print axioms proved
end Go.Proofs.Ytpkhafijmbgcnaa.cacheKeeps
