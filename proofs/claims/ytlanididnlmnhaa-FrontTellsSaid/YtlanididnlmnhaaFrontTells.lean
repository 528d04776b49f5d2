/-
  The law FrontTells of chapter 5 returns true: which alphabets may be, how bytes are told, which are told, and what stands behind them, is as the document says.
  For every input: no condition.
-/
import Derived.Test.YtlanididnlmnhaaRows
import Derived.Test.YtlanididnlmnhaaFLaws0
import Derived.WalkLawsBesides
import Derived.WalkSpells
import Derived.Lib.Hide
import Derived.BigQuiet
import Derived.BigRegion
import Derived.WalkKit
import Derived.ProofKit
import Derived.OpenShut
import Derived.ShutString
import Derived.ChangeOld
import Derived.Below
namespace Go.Proofs.Ytlanididnlmnhaa.frontTells
set_option linter.unusedVariables false
open Go.RowKit
open Front
open Go.ChangeShapes Go.WideShapes Go.ChangeAt Go.RowKit
open Go.ChangeMaps (open_string shut_string)

theorem own : ownKnob Try.prog.godebug = none := by kernel_rfl
theorem laidOut : laidOutB Try.prog = true := by kernel_rfl

/-- A slice of integers that came in. -/
def IsRow (k : IntKind) (w : World) (a : Option Addr) (len cap : Nat) (zs : List Int) : Prop :=
  (a = none ∧ len = 0 ∧ cap = 0 ∧ zs = []) ∨
  ∃ x, a = some x ∧ len ≤ cap ∧ cap ≤ maxLen ∧ zs.length = cap ∧ (∀ i, i < zs.length → w.cell? (x.add i) = some (.int k (zs.getD i 0))) ∧ ∀ n ∈ zs, (Lit.int k n).wf = true

def few (n : Int) (l : List Int) : List Int := l.map fun r => pk r n
theorem few_length (n : Int) (l : List Int) : (few n l).length = l.length := by unfold few; rw [List.length_map]
theorem few_snoc (n : Int) (l : List Int) (r : Int) : few n (l ++ [r]) = few n l ++ [pk r n] := by unfold few; simp
theorem inum_one (l : List Int) : ∀ u ∈ l.map inum, u.oneCell' = true := by
  intro u hu
  obtain ⟨x, _, rfl⟩ := List.mem_map.1 hu
  rfl
theorem resF_len (a s : T) : (resF a s).length ≤ s.length := by
  unfold resF; split
  · rw [plcs_length]; exact Nat.le_refl _
  · exact Nat.zero_le _
theorem front_n (a s : ByteArray) (ha : a.size ≤ 1000) (hs : s.size ≤ 1000) {r : Nat} {cd : Int} {L : List Int} (h1 : (resF a.data.toList s.data.toList).length = r) (h2 : codeF a.data.toList s.data.toList = cd) (h3 : ((resF a.data.toList s.data.toList).map fun k : Nat => (k : Int)) = L) (w : World) :
    Calls Try.prog 15 #[.string a, .string s] w fun e w' => ∃ p c, e = .returned (.tuple #[.slice p r c, .int .i64 cd]) ∧ Kit.Src w' p (L.map inum) ∧ Below w.heap.size w w' := by
  subst h1 h2 h3
  refine (front_any a s ha hs w).mono ?_
  rintro e w' ⟨p, c, h1, h2, h3⟩
  exact ⟨p, c, h1, by rw [List.map_map]; exact h2, h3⟩
theorem rfront_n (a s : ByteArray) (ha : a.size ≤ 1000) (hs : s.size ≤ 1000) {r : Nat} {cd : Int} {L : List Int} (h1 : (resF a.data.toList s.data.toList).length = r) (h2 : codeF a.data.toList s.data.toList = cd) (h3 : ((resF a.data.toList s.data.toList).map fun k : Nat => (k : Int)) = L) (w : World) :
    Calls Try.prog 16 #[.string a, .string s] w fun e w' => ∃ p c, e = .returned (.tuple #[.slice p r c, .int .i64 cd]) ∧ Kit.Src w' p (L.map inum) ∧ Below w.heap.size w w' := by
  subst h1 h2 h3
  refine (rfrontF_any a s ha hs w).mono ?_
  rintro e w' ⟨p, c, h1, h2, h3⟩
  exact ⟨p, c, h1, by rw [List.map_map]; exact h2, h3⟩
theorem after_n (a s : ByteArray) (ha : a.size ≤ 1000) (hs : s.size ≤ 1000) {v : ByteArray} {cd : Int} (h1 : (⟨(resA a.data.toList s.data.toList).toArray⟩ : ByteArray) = v) (h2 : codeF a.data.toList s.data.toList = cd) (w : World) :
    Calls Try.prog 17 #[.string a, .string s] w fun e w' => e = .returned (.tuple #[.string v, .int .i64 cd]) ∧ Below w.heap.size w w' := by
  subst h1 h2
  exact after_any a s ha hs w
theorem rafter_n (a s : ByteArray) (ha : a.size ≤ 1000) (hs : s.size ≤ 1000) {v : ByteArray} {cd : Int} (h1 : (⟨(resA a.data.toList s.data.toList).toArray⟩ : ByteArray) = v) (h2 : codeF a.data.toList s.data.toList = cd) (w : World) :
    Calls Try.prog 18 #[.string a, .string s] w fun e w' => e = .returned (.tuple #[.string v, .int .i64 cd]) ∧ Below w.heap.size w w' := by
  subst h1 h2
  exact rafter_any a s ha hs w
theorem back_n (a : ByteArray) (p : Option Addr) (c n : Nat) (l : List Int) {v : ByteArray} {cd : Int} (hl : l.length = n) (ha : a.size ≤ 1000) (hn : n ≤ 100000) (h1 : (⟨(resB a.data.toList l).toArray⟩ : ByteArray) = v) (h2 : codeB a.data.toList l = cd) (w : World) (hs : Kit.Src w p (l.map inum)) :
    Calls Try.prog 20 #[.string a, .slice p n c] w fun e w' => e = .returned (.tuple #[.string v, .int .i64 cd]) ∧ Below w.heap.size w w' := by
  subst h1 h2
  exact back_any a ha p c n l hl hn w hs
theorem rback_n (a : ByteArray) (p : Option Addr) (c n : Nat) (l : List Int) {v : ByteArray} {cd : Int} (hl : l.length = n) (ha : a.size ≤ 1000) (hn : n ≤ 100000) (h1 : (⟨(resB a.data.toList l).toArray⟩ : ByteArray) = v) (h2 : codeB a.data.toList l = cd) (w : World) (hs : Kit.Src w p (l.map inum)) :
    Calls Try.prog 21 #[.string a, .slice p n c] w fun e w' => e = .returned (.tuple #[.string v, .int .i64 cd]) ∧ Below w.heap.size w w' := by
  subst h1 h2
  exact rback_any a ha p c n l hl hn w hs
set_option maxRecDepth 100000 in
set_option maxHeartbeats 4000000 in
theorem walk (a0 : ByteArray) (a1 : ByteArray) (a2 : Option Addr) (len2 cap2 : Nat) (z2 : List Int) (a3 : Option Addr) (len3 cap3 : Nat) (z3 : List Int) (w : World) (w0 : a0.size ≤ maxLen) (w1 : a1.size ≤ maxLen) (w2 : IsRow .i64 w a2 len2 cap2 z2) (w3 : IsRow .i64 w a3 len3 cap3 z3) :
    Calls Try.prog 3 #[.string a0, .string a1, .slice a2 len2 cap2, .slice a3 len3 cap3] w fun e w' => e = .returned (.bool true) ∧ Below w.heap.size w w' := by
  obtain ⟨l, hl, hlm, hlc, hcm, hnone, hsrc, hbd⟩ := ints_of w2
  obtain ⟨l3, hl3, hlm3, hlc3, hcm3, hnone3, hsrc3, hbd3⟩ := ints_of w3
  clear w2 w3
  have HL := Lib.hid hl
  have HSRC := Lib.hid hsrc
  have HBD := Lib.hid hbd
  have HLM := Lib.hid hlm
  have HL3 := Lib.hid hl3
  have HSRC3 := Lib.hid hsrc3
  have hs0 : a0.size ≤ maxLen := w0
  have hs1 : a1.size ≤ maxLen := w1
  obtain ⟨M0, x, hM0, hM0s, hx, hxs, _⟩ := Kit.cut_text a0 60 60 rfl
  obtain ⟨M1, t, hM1, hM1s, ht, hts, _⟩ := Kit.cut_text a1 60 60 rfl
  obtain ⟨M3, hM3, hM3l, hM3s, _⟩ := Kit.cut_len len3 60 60 rfl
  unfold maxLen at hlm hlm3 hs0 hs1 hcm3
  clear hl hsrc hbd w0 w1 hcm hnone hlc hl3 hsrc3 hbd3 hnone3
  have hM3c : M3 ≤ cap3 := by omega
  go_enter Try.func3, Try.ntmps3
  go_wp2_with fail
  refine (awake_any _).mono ?_
  rintro e w1 ⟨rfl, b1⟩
  go_wp2_with fail
  refine (alphabet_any x (by unfold maxLen; omega) _).mono ?_
  rintro e w2 ⟨rfl, rfl⟩
  obtain ⟨A, hA⟩ : ∃ A, alpha x.data.toList = A := ⟨_, rfl⟩
  have hlen : A.length ≤ 30 := by rw [← hA]; exact alpha_len _
  rw [hA]
  obtain ⟨y, hy⟩ : ∃ y, bs A = y := ⟨_, rfl⟩
  have hyl : y.data.toList = A := by rw [← hy, bs_list]
  have hys : y.size ≤ 30 := by rw [← hy, bs_size]; exact hlen
  rw [hy]
  have z1 := b1.size
  clear hA hy hyl hlen
  go_wp2
  go_loopw [13, 14] (fun v i wr => ∃ (k : Nat) (p : Option Addr) (c : Nat), k ≤ len2 ∧ k ≤ 60 ∧ i = .int .i64 k ∧ v = .slice p k c ∧ RowKit.Hid (Kit.Own wr w.heap.size 3 p k c ((few ((y.size : Int) + 1) (l.take k)).map inum)) ∧ Below w.heap.size w wr) (fun _ i _ => len2 - (intOf i).toNat)
  case atStart => exact ⟨0, none, 0, by omega, by omega, rfl, rfl, Kit.Own.start _ _ _, b1⟩
  case round =>
    obtain ⟨k, p, c, hk, hk2, rfl, rfl, hown, hb⟩ := hrel
    by_cases hc : k < len2 ∧ k < 60
    · obtain ⟨hc1, hc2⟩ := hc
      have hkl : k < l.length := by rw [HL.out]; exact hc1
      obtain ⟨b0, off, rfl, hbl, hcell⟩ := src_at HSRC.out k hkl
      have hcw : _ := hb.cell (p := ⟨b0, off + k, none⟩) hbl
      rw [hcell] at hcw
      obtain ⟨l1, l2⟩ := HBD.out _ (List.getElem_mem hkl)
      obtain ⟨q, hq⟩ : ∃ q : Int, pk l[k] ((y.size : Int) + 1) = q := ⟨_, rfl⟩
      have hp1 : few ((y.size : Int) + 1) (l.take (k + 1)) = few ((y.size : Int) + 1) (l.take k) ++ [q] := by
        rw [List.take_succ_eq_append_getElem hkl, few_snoc, hq]
      have HP1 := Lib.hid hp1
      have HQ := Lib.hid hq
      clear hp1 hq hcell
      obtain ⟨x9, hx9⟩ : ∃ x, l[k] = x := ⟨_, rfl⟩
      rw [hx9] at hcw l1 l2 HQ
      clear hx9
      have zr := hb.size
      obtain ⟨p3, c3, w3, hr3, ho3, hg3⟩ := Kit.Own.app (ty := 22) (w := wr.alloc (.cells #[.int .i64 q] 3)) one_int (hown.out.alloc _) (some ⟨wr.heap.size, 0, none⟩) 1 1 [inum q] (Kit.new_one wr _ 3) rfl (fun h => by cases h) (inum_one [q]) (by unfold maxLen; omega) (by omega) (by simp; omega)
      have hb3 : Below w.heap.size w w3 := hb.trans (((Below.refl _ _).alloc zr _).trans ((Below.refl _ _).grown hg3 (by simp; omega) (fun q hq => hown.out.block q hq)))
      have HO3 := Lib.hid ho3
      have HB3 := Lib.hid hb3
      clear ho3 hb3 hg3
      go_wp2_with fail
      refine (pick_any x9 ((y.size : Int) + 1) _ l1 l2 (by omega) (by omega)).mono ?_
      rintro e w7 ⟨rfl, rfl⟩
      rw [HQ.out]
      go_wp2_with (at_builtin; refine Kit.app_eq rfl (.tmp 56) (.tmp 65) 22 rfl rfl rfl hr3 ?_)
      go_roundw
      case rel => exact ⟨k + 1, p3, c3, by omega, by omega, by go_num, rfl, by rw [HP1.out, List.map_append]; exact HO3, HB3.out⟩
      case measure => simp [intOf]; omega
    · have h3 : ¬ k < len2 ∨ (k < len2 ∧ ¬ k < 60) := by
        by_cases h1 : k < len2
        · exact .inr ⟨h1, fun h => hc ⟨h1, h⟩⟩
        · exact .inl h1
      clear hc
      obtain ⟨F, hF⟩ : ∃ F, few ((y.size : Int) + 1) (l.take k) = F := ⟨_, rfl⟩
      have hFl : F.length = k := by rw [← hF, few_length, List.length_take, HL.out]; omega
      rw [hF] at hown
      have HFL := Lib.hid hFl
      clear hF hFl
      rcases h3 with h | ⟨h, h'⟩
      all_goals
        go_wp2
        obtain ⟨W, hW⟩ : ∃ W, wr.alloc (.cells #[.string x, .string y] 9) = W := ⟨_, rfl⟩
        rw [hW]
        have hc0 : W.cell? ⟨wr.heap.size, 0, none⟩ = some (.string x) := by rw [← hW]; simp
        have hc1 : W.cell? ⟨wr.heap.size, 1, none⟩ = some (.string y) := by rw [← hW]; simp
        have hbw : Below wr.heap.size wr W := by rw [← hW]; exact (Below.refl _ _).alloc (Nat.le_refl _) _
        have hszW : W.heap.size = wr.heap.size + 1 := by rw [← hW]; simp
        obtain ⟨bb, hbb⟩ : ∃ bb, wr.heap.size = bb := ⟨_, rfl⟩
        have zb := hb.size
        have SF := Lib.hid (hown.out.src.below hbw)
        have hbW : Below w.heap.size w W := hb.trans (hbw.mono zb)
        have SR := Lib.hid (HSRC.out.below hbW)
        have S3 := Lib.hid ((HSRC3.out.below hbW).take M3)
        rw [hbb] at hc0 hc1 hszW zb hbw ⊢
        have hcj : ∀ j, j < 2 → ∃ a : ByteArray, W.cell? ⟨bb, j, none⟩ = some (.string a) ∧ a.size ≤ 60 := by
          intro j hj
          match j, hj with
          | 0, _ => exact ⟨x, hc0, hxs⟩
          | 1, _ => exact ⟨y, hc1, by omega⟩
        have HCJ := Lib.hid hcj
        have HBW := Lib.hid hbW
        clear hc0 hc1 hW hcj hbw hbW hbb
        go_loopw [71] (fun i wr => ∃ j : Nat, j ≤ 2 ∧ i = .int .i64 j ∧ Below W.heap.size W wr) (fun i _ => 2 - (intOf i).toNat)
        case atStart => exact ⟨0, by omega, rfl, Below.refl _ _⟩
        case round =>
          obtain ⟨j, hj, rfl, hbj⟩ := hrel
          by_cases hlt : j < 2
          · obtain ⟨wo, rfl⟩ : ∃ wo : World, wo = wr := ⟨_, rfl⟩
            obtain ⟨a, hca, has⟩ := HCJ.out j hlt
            have hcw : _ := hbj.cell (p := ⟨bb, j, none⟩) (by show bb < _; omega)
            rw [hca] at hcw
            obtain ⟨rb, hrb⟩ : ∃ rb, right a.data.toList = rb := ⟨_, rfl⟩
            have HRB := Lib.hid hrb
            have zj := hbj.size
            clear hca hrb
            go_wp2_with fail
            refine (right_any a (by unfold maxLen; omega) _).mono ?_
            rintro e w3 ⟨rfl, b3⟩
            rw [HRB.out]
            have B3 : Below W.heap.size W w3 := hbj.trans (b3.mono zj)
            have z3 := B3.size
            clear b3 hcw
            go_wp2_with fail
            refine (rright_any a (by unfold maxLen; omega) _).mono ?_
            rintro e w4 ⟨rfl, rfl⟩
            rw [HRB.out]
            have SR3 := Lib.hid (SR.out.below B3)
            go_wp2_with fail
            refine (text_any y (by omega) _ _ _ l HL.out 60 (by omega) HLM.out _ SR3.out HBD.out).mono ?_
            rintro e w5 ⟨rfl, rfl⟩
            go_wp2_with fail
            refine (text_any y (by omega) _ _ _ l HL.out 60 (by omega) HLM.out _ SR3.out HBD.out).mono ?_
            rintro e w6 ⟨rfl, rfl⟩
            obtain ⟨u2, hu2⟩ : ∃ u2, bs (text y.data.toList (l.take 60)) = u2 := ⟨_, rfl⟩
            have hu2s : u2.size ≤ 60 := by
              rw [← hu2, bs_size]
              have := text_length0 y.data.toList (l.take 60)
              rw [List.length_take] at this; omega
            rw [hu2]
            clear hu2
            go_wp2
            obtain ⟨V, hV⟩ : ∃ V, w3.alloc (.cells #[.string t, .string u2, .string (u2 ++ t)] 9) = V := ⟨_, rfl⟩
            rw [hV]
            have hd0 : V.cell? ⟨w3.heap.size, 0, none⟩ = some (.string t) := by rw [← hV]; simp
            have hd1 : V.cell? ⟨w3.heap.size, 1, none⟩ = some (.string u2) := by rw [← hV]; simp
            have hd2 : V.cell? ⟨w3.heap.size, 2, none⟩ = some (.string (u2 ++ t)) := by rw [← hV]; simp
            have hbv : Below W.heap.size W V := by rw [← hV]; exact B3.alloc z3 _
            have hszV : V.heap.size = w3.heap.size + 1 := by rw [← hV]; simp
            obtain ⟨dd, hdd⟩ : ∃ dd, w3.heap.size = dd := ⟨_, rfl⟩
            rw [hdd] at hd0 hd1 hd2 hszV z3 ⊢
            have hut : (u2 ++ t).size ≤ 120 := by rw [ByteArray.size_append]; omega
            have hdj : ∀ j, j < 3 → ∃ u : ByteArray, V.cell? ⟨dd, j, none⟩ = some (.string u) ∧ u.size ≤ 120 := by
              intro j hj
              match j, hj with
              | 0, _ => exact ⟨t, hd0, by omega⟩
              | 1, _ => exact ⟨u2, hd1, by omega⟩
              | 2, _ => exact ⟨u2 ++ t, hd2, hut⟩
            have HDJ := Lib.hid hdj
            have HBV := Lib.hid hbv
            clear hd0 hd1 hd2 hV hdj hbv hdd hut B3
            go_loopw [91] (fun i wr => ∃ j : Nat, j ≤ 3 ∧ i = .int .i64 j ∧ Below V.heap.size V wr) (fun i _ => 3 - (intOf i).toNat)
            case atStart => exact ⟨0, by omega, rfl, Below.refl _ _⟩
            case round =>
              obtain ⟨i, hi, rfl, hbi⟩ := hrel
              by_cases hl3 : i < 3
              · obtain ⟨u, hcu, hus⟩ := HDJ.out i hl3
                have hcw : _ := hbi.cell (p := ⟨dd, i, none⟩) (by show dd < _; omega)
                rw [hcu] at hcw
                obtain ⟨r, hr⟩ : ∃ r, (resF a.data.toList u.data.toList).length = r := ⟨_, rfl⟩
                obtain ⟨cd, hcd⟩ : ∃ cd, codeF a.data.toList u.data.toList = cd := ⟨_, rfl⟩
                obtain ⟨L, hL⟩ : ∃ L, ((resF a.data.toList u.data.toList).map fun k : Nat => (k : Int)) = L := ⟨_, rfl⟩
                obtain ⟨v, hv⟩ : ∃ v, (⟨(resA a.data.toList u.data.toList).toArray⟩ : ByteArray) = v := ⟨_, rfl⟩
                have hrs : r ≤ 1000 := by rw [← hr]; have := resF_len a.data.toList u.data.toList; rw [len_text] at this; omega
                have hLr : L.length = r := by rw [← hL, List.length_map, hr]
                have HR := Lib.hid hr
                have HCD := Lib.hid hcd
                have HLL := Lib.hid hL
                have HV := Lib.hid hv
                have HLR := Lib.hid hLr
                have zi := hbi.size
                clear hcu hr hcd hL hv hLr
                go_wp2_with fail
                refine (front_n a u (by omega) (by omega) HR.out HCD.out HLL.out _).mono ?_
                rintro e w5 ⟨p5, c5, rfl, s5, b5⟩
                have B5 : Below V.heap.size V w5 := hbi.trans (b5.mono zi)
                have z5 := B5.size
                have S5 := Lib.hid s5
                clear b5 s5 hcw
                go_wp2_with fail
                refine (rfront_n a u (by omega) (by omega) HR.out HCD.out HLL.out _).mono ?_
                rintro e w6 ⟨p6, c6, rfl, s6, b6⟩
                have B6 : Below V.heap.size V w6 := B5.trans (b6.mono z5)
                have z6 := B6.size
                have S6 := Lib.hid s6
                have S56 := Lib.hid (S5.out.below b6)
                clear b6 s6 S5 B5 z5
                go_wp2_with fail
                refine (after_n a u (by omega) (by omega) HV.out HCD.out _).mono ?_
                rintro e w7 ⟨rfl, b7⟩
                have B7 : Below V.heap.size V w7 := B6.trans (b7.mono z6)
                have z7 := B7.size
                have S67 := Lib.hid (S6.out.below b7)
                have S57 := Lib.hid (S56.out.below b7)
                clear b7 S6 S56 B6 z6
                go_wp2_with fail
                refine (rafter_n a u (by omega) (by omega) HV.out HCD.out _).mono ?_
                rintro e w8 ⟨rfl, b8⟩
                have B8 : Below V.heap.size V w8 := B7.trans (b8.mono z7)
                have z8 := B8.size
                have S68 := Lib.hid (S67.out.below b8)
                have S58 := Lib.hid (S57.out.below b8)
                clear b8 S67 S57 B7 z7
                go_wp2_with fail
                refine (ints_any p5 p6 c5 c6 r r L L HLR.out HLR.out (by omega) (by omega) _ S58.out S68.out).mono ?_
                rintro e w9 ⟨rfl, b9⟩
                rw [show decide (L = L) = true from by simp]
                have B9 : Below V.heap.size V w9 := B8.trans (b9.mono z8)
                clear b9
                go_wp2
                go_roundw
                case rel => exact ⟨i + 1, by omega, by go_num, B9⟩
                case measure => simp [intOf]; omega
              · obtain ⟨wp, rfl⟩ : ∃ wp : World, wp = wr := ⟨_, rfl⟩
                have hbl : Below W.heap.size W wp := HBV.out.trans (hbi.mono HBV.out.size)
                have SFP := Lib.hid (SF.out.below hbl)
                have S3P := Lib.hid (S3.out.below hbl)
                have HBL := Lib.hid hbl
                clear hbl
                have hl3l : (l3.take M3).length = M3 := by rw [List.length_take, HL3.out]; omega
                have s3q := S3P.out
                rw [← List.map_take] at s3q
                have HL3L := Lib.hid hl3l
                have S3Q := Lib.hid s3q
                clear hl3l s3q
                go_wp2
                obtain ⟨U, hU⟩ : ∃ U, wp.alloc (.cells #[.slice a3 M3 cap3, .slice p k c] 22) = U := ⟨_, rfl⟩
                rw [hU]
                have hbu : Below wp.heap.size wp U := by rw [← hU]; exact (Below.refl _ _).alloc (Nat.le_refl _) _
                have hszU : U.heap.size = wp.heap.size + 1 := by rw [← hU]; simp
                have he0 : U.cell? ⟨wp.heap.size, 0, none⟩ = some (.slice a3 M3 cap3) := by rw [← hU]; simp
                have he1 : U.cell? ⟨wp.heap.size, 1, none⟩ = some (.slice p k c) := by rw [← hU]; simp
                obtain ⟨ee, hee⟩ : ∃ ee, wp.heap.size = ee := ⟨_, rfl⟩
                have zwp := HBL.out.size
                have hbU := HBL.out.trans (hbu.mono zwp)
                have hej : ∀ j, j < 2 → ∃ (q : Option Addr) (n d : Nat) (L : List Int), U.cell? ⟨wp.heap.size, j, none⟩ = some (.slice q n d) ∧ L.length = n ∧ n ≤ 60 ∧ Kit.Src U q (L.map inum) := by
                  intro j hj
                  match j, hj with
                  | 0, _ => exact ⟨a3, M3, cap3, l3.take M3, he0, HL3L.out, hM3s, S3Q.out.below hbu⟩
                  | 1, _ => exact ⟨p, k, c, F, he1, HFL.out, hk2, SFP.out.below hbu⟩
                rw [hee] at hej hszU zwp ⊢
                have HEJ := Lib.hid hej
                have HBU := Lib.hid hbU
                clear he0 he1 hU hej hbU hee hbu
                go_loopw [147] (fun i wr => ∃ j : Nat, j ≤ 2 ∧ i = .int .i64 j ∧ Below U.heap.size U wr) (fun i _ => 2 - (intOf i).toNat)
                case atStart => exact ⟨0, by omega, rfl, Below.refl _ _⟩
                case round =>
                  obtain ⟨i, hi, rfl, hbi⟩ := hrel
                  by_cases hl3 : i < 2
                  · obtain ⟨q, n, d, L, hcu, hLn, hn, hsu⟩ := HEJ.out i hl3
                    have hcw : _ := hbi.cell (p := ⟨ee, i, none⟩) (by show ee < _; omega)
                    rw [hcu] at hcw
                    obtain ⟨cd, hcd⟩ : ∃ cd, codeB a.data.toList L = cd := ⟨_, rfl⟩
                    obtain ⟨v, hv⟩ : ∃ v, (⟨(resB a.data.toList L).toArray⟩ : ByteArray) = v := ⟨_, rfl⟩
                    have HLN := Lib.hid hLn
                    have HCD := Lib.hid hcd
                    have HV := Lib.hid hv
                    have zi := hbi.size
                    have SU := Lib.hid (hsu.below hbi)
                    clear hcu hcd hv hLn hsu
                    go_wp2_with fail
                    refine (back_n a q d n L HLN.out (by omega) (by omega) HV.out HCD.out _ SU.out).mono ?_
                    rintro e w5 ⟨rfl, b5⟩
                    have B5 : Below U.heap.size U w5 := hbi.trans (b5.mono zi)
                    have z5 := B5.size
                    have SU5 := Lib.hid (SU.out.below b5)
                    clear b5 hcw SU
                    go_wp2_with fail
                    refine (rback_n a q d n L HLN.out (by omega) (by omega) HV.out HCD.out _ SU5.out).mono ?_
                    rintro e w6 ⟨rfl, b6⟩
                    have B6 : Below U.heap.size U w6 := B5.trans (b6.mono z5)
                    clear b6 B5 z5
                    go_wp2
                    go_roundw
                    case rel => exact ⟨i + 1, by omega, by go_num, B6⟩
                    case measure => simp [intOf]; omega
                  · have hfin : Below W.heap.size W wr := HBU.out.trans (hbi.mono HBU.out.size)
                    go_wp2
                    go_roundw
                    case rel => exact ⟨j + 1, by omega, by go_num, hfin⟩
                    case measure => simp [intOf]; omega
          · go_wp2
            go_ret
            exact ⟨rfl, HBW.out.trans (hbj.mono HBW.out.size)⟩

set_option maxRecDepth 100000 in
set_option maxHeartbeats 400000 in
theorem lifted (os : Os) (started : os.Started) (H : Type) (enc : TypeId × Value → H) :
    ReturnsInHanded {} Try.checked os 3 .any (Rows.frontTellsSpec.pre6 enc Try.prog Try.f3 Rows.frontTellsRow.domain false) (Rows.frontTellsSpec.post enc Try.prog Try.f3 false true false false) := by
  refine returnsInHanded_of_change (C := Try.checked) own started (by kernel_rfl) Try.func3
    (ChangeSpec.witness6 (enc := enc) (C := Try.checked) false ⟨#[], #[.string ByteArray.empty, .string ByteArray.empty, .slice none 0 0, .slice none 0 0], []⟩ 8 (by kernel_rfl) (by kernel_rfl) (by kernel_rfl) (by kernel_rfl)) ?_
  intro W base args ds gs before hval0 hW hcnd _
  have hval : ∀ (j : Nat) t v, Try.f3.params[j]? = some t → args[j]? = some v → Value.okWide Try.prog W .any base t v := hval0
  have hW' := hW
  obtain ⟨p, q, hA0, hV, rfl, hfz, hnd⟩ := hW
  have hA : DataW.TrodAll enc Try.prog W 0 (fun _ => true) true Try.f3.params.toList args.toList ds p := hA0
  rw [Try.params3] at hA hval
  obtain ⟨v0, vs0, d0, ds0, p0, q0, hargs, rfl, rfl, h0, r0⟩ := trodAll_cons hA
  obtain ⟨v1, vs1, d1, ds1, p1, q1, rfl, rfl, rfl, h1, r1⟩ := trodAll_cons r0
  obtain ⟨v2, vs2, d2, ds2, p2, q2, rfl, rfl, rfl, h2, r2⟩ := trodAll_cons r1
  obtain ⟨v3, vs3, d3, ds3, p3, q3, rfl, rfl, rfl, h3, r3⟩ := trodAll_cons r2
  obtain ⟨rfl, rfl, rfl⟩ := trodAll_nil r3
  obtain rfl : args = #[v0, v1, v2, v3] := by cases args; simp_all
  obtain ⟨rfl, rfl⟩ := trodVars_none hV
  obtain ⟨a0, rfl, rfl, rfl, w0⟩ := open_string Try.underlying9 (hval 0 9 v0 rfl rfl) h0
  obtain ⟨a1, rfl, rfl, rfl, w1⟩ := open_string Try.underlying9 (hval 1 9 v1 rfl rfl) h1
  obtain ⟨a2, len2, cap2, rfl⟩ := okWide_slice Try.underlying22 (hval 2 22 v2 rfl rfl)
  have k2 := h2
  have lt2 : ∀ x ∈ p2, x.block < W.heap.size := by obtain ⟨m, hm⟩ := k2; exact DataW.trod_lt m _ _ _ hm
  obtain ⟨z2, w2⟩ : ∃ zs, IsRow .i64 W a2 len2 cap2 zs := by
    obtain ⟨fuel, hf⟩ := h2
    rcases open_ints Try.underlying22 Try.underlying3 (by kernel_rfl) hf with ⟨hcs, _⟩ | ⟨x, l, c, zs, hcs, _, hl, hm, hz, _, hcell, hwz⟩
    · simp [Value.cells] at hcs
      obtain ⟨rfl, rfl, rfl⟩ := hcs
      exact ⟨[], .inl ⟨rfl, rfl, rfl, rfl⟩⟩
    · simp [Value.cells] at hcs
      obtain ⟨rfl, rfl, rfl⟩ := hcs
      exact ⟨zs, .inr ⟨_, rfl, hl, hm, by simpa using hz, hcell, hwz⟩⟩
  obtain ⟨a3, len3, cap3, rfl⟩ := okWide_slice Try.underlying22 (hval 3 22 v3 rfl rfl)
  have k3 := h3
  have lt3 : ∀ x ∈ p3, x.block < W.heap.size := by obtain ⟨m, hm⟩ := k3; exact DataW.trod_lt m _ _ _ hm
  obtain ⟨z3, w3⟩ : ∃ zs, IsRow .i64 W a3 len3 cap3 zs := by
    obtain ⟨fuel, hf⟩ := h3
    rcases open_ints Try.underlying22 Try.underlying3 (by kernel_rfl) hf with ⟨hcs, _⟩ | ⟨x, l, c, zs, hcs, _, hl, hm, hz, _, hcell, hwz⟩
    · simp [Value.cells] at hcs
      obtain ⟨rfl, rfl, rfl⟩ := hcs
      exact ⟨[], .inl ⟨rfl, rfl, rfl, rfl⟩⟩
    · simp [Value.cells] at hcs
      obtain ⟨rfl, rfl, rfl⟩ := hcs
      exact ⟨zs, .inr ⟨_, rfl, hl, hm, by simpa using hz, hcell, hwz⟩⟩
  clear hA0 hval0
  refine (walk a0 a1 a2 len2 cap2 z2 a3 len3 cap3 z3 W w0 w1 w2 w3).mono fun e W' ⟨he, bel⟩ => ?_
  subst he
  exact ⟨_, rfl, _, _, _, [], _, [], hW', trodAll_mk1 (shut_bool Try.underlying4 _), (trodAll_cons_mk (shut_string Try.underlying9 w0) (trodAll_cons_mk (shut_string Try.underlying9 w1) (trodAll_cons_mk (Below.trod laidOut (by kernel_rfl) (of_decide_eq_true (by kernel_rfl)) k2 bel lt2) (trodAll_cons_mk (Below.trod laidOut (by kernel_rfl) (of_decide_eq_true (by kernel_rfl)) k3 bel lt3) trodAll_mk0)))), rfl, bel.frame _, fun h => by cases h⟩

theorem over : Rows.frontTellsRow.holds Try.pinned (OpenSpec.ofChange Rows.frontTellsSpec) :=
  OpenClaim.holds_of_wide 3 Try.f3 rfl rfl rfl rfl rfl rfl rfl ⟨rfl, rfl, rfl, rfl, rfl⟩ rfl rfl rfl rfl rfl (by kernel_rfl) Try.func3 (by kernel_rfl)
    (of_decide_eq_true (by kernel_rfl)) (by unfold Func.isWrapper; first | (rw [if_pos (by decide +kernel)]; kernel_rfl) | (rw [if_neg (by decide +kernel)]; exact ⟨rfl, rfl⟩))
    (fun os started H enc _ => lifted os started H enc)

theorem proved : Rows.FrontTellsSaid := over
#print axioms proved
end Go.Proofs.Ytlanididnlmnhaa.frontTells
