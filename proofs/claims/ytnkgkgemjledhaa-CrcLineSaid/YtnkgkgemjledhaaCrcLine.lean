/-
  The law CrcLine of chapter 3 returns true: three texts that are as long, put together by exclusive or, have as sum those of the three, so.
  For every input: no condition.
-/
import Derived.Test.YtnkgkgemjledhaaRows
import Derived.Test.YtnkgkgemjledhaaLaws0
import Derived.Test.YtnkgkgemjledhaaOwn
import Derived.Test.YtnkgkgemjledhaaReg
import Derived.WalkLawsBesides
import Derived.WalkSpells
import Derived.Lib.Hide
import Derived.Deep.RegionLaw
import Derived.WalkKit
import Derived.ProofKit
import Derived.OpenShut
import Derived.ShutString
import Derived.ChangeOld
import Derived.Below
namespace Go.Proofs.Ytnkgkgemjledhaa.crcLine
set_option linter.unusedVariables false
open Go.RowKit
open Crc
open Go.ChangeShapes Go.WideShapes Go.ChangeAt Go.RowKit
open Go.ChangeMaps (open_string shut_string)

theorem own : ownKnob Try.prog.godebug = none := by kernel_rfl
theorem laidOut : laidOutB Try.prog = true := by kernel_rfl

theorem min4 (x y z u : Nat) : ∃ n : Nat, (∀ (w : World) (ts : Array TypeId) (t : TypeId), (Builtin.min_ ts t #[.int .i64 (x : Int), .int .i64 (y : Int), .int .i64 (z : Int), .int .i64 (u : Int)]).run Try.prog w = .ok (.int .i64 (n : Int)) w) ∧ n ≤ x ∧ n ≤ y ∧ n ≤ z ∧ n ≤ u := by
  refine ⟨min (min (min x y) z) u, fun w ts t => ?_, by omega, by omega, by omega, by omega⟩
  simp [Builtin.min_, Builtin.min2]
  (repeat split) <;> omega
theorem bytes_xor (x y z : UInt8) : bits .xor .u8 (bits .xor .u8 (x.toNat : Int) (y.toNat : Int)) (z.toNat : Int) = ((x ^^^ y ^^^ z).toNat : Int) := by
  rw [u8_xor_nat _ _ (by have := x.toNat_lt; omega) (by have := y.toNat_lt; omega)]
  rw [show x.toNat ^^^ y.toNat = (x ^^^ y).toNat from (UInt8.toNat_xor x y).symm, u8_xor_nat _ _ (by have := (x ^^^ y).toNat_lt; omega) (by have := z.toNat_lt; omega), ← UInt8.toNat_xor]
theorem getD_byte (s : ByteArray) (k : Nat) (h : k < s.size) : s.data.toList.getD k 0 = s[k] := by
  have h2 : k < s.data.toList.length := by simpa using h
  rw [List.getD, List.getElem?_eq_getElem h2]; rfl
theorem take_text (s : ByteArray) (k : Nat) : s.data.toList.take k = (s.extract 0 k).data.toList := by
  rw [ByteArray.data_extract, Array.toList_extract]; simp
theorem xor3_length (a b c : List UInt8) (n : Nat) : (xor3 a b c n).length = n := by
  induction n with
  | zero => rfl
  | succ n ih => rw [xor3, List.length_append, ih]; rfl
theorem one8 : Kit.One Try.prog 32 5 1 := ⟨Try.underlying32, .int .u8 0, by kernel_rfl, rfl⟩
set_option maxRecDepth 100000 in
set_option maxHeartbeats 1000000 in
theorem walk (a0 : ByteArray) (a1 : ByteArray) (a2 : ByteArray) (w : World) (w0 : a0.size ≤ maxLen) (w1 : a1.size ≤ maxLen) (w2 : a2.size ≤ maxLen) :
    Calls Try.prog 6 #[.string a0, .string a1, .string a2] w fun e w' => e = .returned (.bool true) ∧ Below w.heap.size w w' := by
  unfold maxLen at w0 w1 w2
  obtain ⟨n, hmin, hn0, hn1, hn2, hn3⟩ := min4 a0.size a1.size a2.size 60
  simp only [Int.cast_ofNat_Int] at hmin
  go_enter Try.func6, Try.ntmps6
  go_wp2_with fail
  refine (awake_any _).mono ?_
  rintro e w1 ⟨rfl, b1⟩
  go_wp2
  have z1 := b1.size
  go_loopw [9, 10] (fun v i wr => ∃ (k : Nat) (a : Option Addr) (c : Nat), k ≤ n ∧ i = .int .i64 k ∧ v = .slice a k c ∧ Kit.Own wr w.heap.size 5 a k c ((xor3 a0.data.toList a1.data.toList a2.data.toList k).map Kit.bval) ∧ Below w.heap.size w wr) (fun _ i _ => n - (intOf i).toNat)
  case atStart => exact ⟨0, none, 0, by omega, rfl, rfl, Kit.Own.start _ _ _, b1⟩
  case round =>
    obtain ⟨k, a, c, hk, rfl, rfl, hown, hb⟩ := hrel
    by_cases hlt : k < n
    · have hlt0 : k < a0.size := by omega
      have hlt1 : k < a1.size := by omega
      have hlt2 : k < a2.size := by omega
      have hx := bytes_xor a0[k] a1[k] a2[k]
      obtain ⟨x, hxe⟩ : ∃ x, a0[k] ^^^ a1[k] ^^^ a2[k] = x := ⟨_, rfl⟩
      rw [hxe] at hx
      have HXE := Lib.hid hxe
      clear hxe
      have zr := hb.size
      obtain ⟨a', c', w', hr, ho', hg⟩ := Kit.Own.app (ty := 32) (w := (wr.drew.alloc (.cells #[.int .u8 (x.toNat : Int)] 5))) one8 (Kit.Own.alloc (w := wr.drew) hown _) (some ⟨wr.heap.size, 0, none⟩) 1 1 ([x].map Kit.bval) (Kit.new_one wr.drew _ 5) rfl (fun h => by cases h) (Kit.bval_one _) (by unfold maxLen; omega) (by omega) (by simp; omega)
      rw [← List.map_append] at ho'
      have b' := Kit.grown_below hg (by simp; omega) hown.block
      have B' : Below w.heap.size w w' := (hb.drew.alloc zr _).trans b'
      have HO := Lib.hid ho'
      clear hg b' ho'
      go_wp2
      go_region_law (refine Kit.step_app_eq rfl (.tmp 24) (.tmp 36) 32 rfl rfl rfl hr ?_)
      all_goals
        go_wp2
        go_roundw
        case rel => exact ⟨k + 1, a', c', by omega, by go_num, rfl, by rw [xor3, show a0.data.toList.getD k 0 ^^^ a1.data.toList.getD k 0 ^^^ a2.data.toList.getD k 0 = x from by rw [getD_byte a0 k hlt0, getD_byte a1 k hlt1, getD_byte a2 k hlt2]; exact HXE.out]; exact HO.out, B'⟩
        case measure => simp [intOf]; omega
    · obtain rfl : k = n := by omega
      obtain ⟨p, hp⟩ : ∃ p, sum (a0.extract 0 k).data.toList = p := ⟨_, rfl⟩
      obtain ⟨q, hq⟩ : ∃ q, sum (a1.extract 0 k).data.toList = q := ⟨_, rfl⟩
      obtain ⟨r, hr⟩ : ∃ r, sum (a2.extract 0 k).data.toList = r := ⟨_, rfl⟩
      have hsum : sum (xor3 a0.data.toList a1.data.toList a2.data.toList k) = p ^^^ q ^^^ r := by
        rw [sum_xor3 _ _ _ k (by simpa using hn0) (by simpa using hn1) (by simpa using hn2), ← hp, ← hq, ← hr, take_text a0 k, take_text a1 k, take_text a2 k]
      have hlen : (xor3 a0.data.toList a1.data.toList a2.data.toList k).length = k := xor3_length _ _ _ k
      have hsrc := hown.src
      have hcv : ∀ s : Kit.Cls wr, (convert 32 9 (.slice a k c)).run Try.prog s.to = .ok (.string ⟨(xor3 a0.data.toList a1.data.toList a2.data.toList k).toArray⟩) s.to := fun s => (hsrc.cls s).text hlen Try.underlying32 Try.underlying5 Try.underlying9
      have x1 := U_xor p q
      have x2 := U_xor (p ^^^ q) r
      have C0 := Lib.hid (sum_is ⟨(xor3 a0.data.toList a1.data.toList a2.data.toList k).toArray⟩ (p ^^^ q ^^^ r) (by show (xor3 a0.data.toList a1.data.toList a2.data.toList k).toArray.size ≤ _; rw [List.size_toArray, hlen]; omega) hsum)
      have C1 := Lib.hid (sum_is (a0.extract 0 k) p (by rw [ByteArray.size_extract]; omega) hp)
      have C2 := Lib.hid (sum_is (a1.extract 0 k) q (by rw [ByteArray.size_extract]; omega) hq)
      have C3 := Lib.hid (sum_is (a2.extract 0 k) r (by rw [ByteArray.size_extract]; omega) hr)
      clear hsum hlen hsrc hp hq hr
      go_wp2
      refine Kit.region_below (by kernel_rfl) (by kernel_rfl) ?_
      repeat (go_big_quiet_step (first | (with_reducible exact Kit.quiet_call (C0.out _)) | (with_reducible exact Kit.quiet_call (C1.out _)) | (with_reducible exact Kit.quiet_call (C2.out _)) | (with_reducible exact Kit.quiet_call (C3.out _))))
      refine wpQuiet_nil ?_
      intro _ hw'
      obtain ⟨s, hs⟩ := hw'
      subst hs
      go_wp2
      go_ret
      exact ⟨rfl, hb.trans (s.below.mono hb.size)⟩

set_option maxRecDepth 100000 in
set_option maxHeartbeats 400000 in
theorem lifted (os : Os) (started : os.Started) (H : Type) (enc : TypeId × Value → H) :
    ReturnsInHanded {} Try.checked os 6 .any (Rows.crcLineSpec.pre6 enc Try.prog Try.f6 Rows.crcLineRow.domain false) (Rows.crcLineSpec.post enc Try.prog Try.f6 false true false false) := by
  refine returnsInHanded_of_change (C := Try.checked) own started (by kernel_rfl) Try.func6
    (ChangeSpec.witness6 (enc := enc) (C := Try.checked) false ⟨#[], #[.string ByteArray.empty, .string ByteArray.empty, .string ByteArray.empty], []⟩ 8 (by kernel_rfl) (by kernel_rfl) (by kernel_rfl) (by kernel_rfl)) ?_
  intro W base args ds gs before hval0 hW hcnd _
  have hval : ∀ (j : Nat) t v, Try.f6.params[j]? = some t → args[j]? = some v → Value.okWide Try.prog W .any base t v := hval0
  have hW' := hW
  obtain ⟨p, q, hA0, hV, rfl, hfz, hnd⟩ := hW
  have hA : DataW.TrodAll enc Try.prog W 0 (fun _ => true) true Try.f6.params.toList args.toList ds p := hA0
  rw [Try.params6] at hA hval
  obtain ⟨v0, vs0, d0, ds0, p0, q0, hargs, rfl, rfl, h0, r0⟩ := trodAll_cons hA
  obtain ⟨v1, vs1, d1, ds1, p1, q1, rfl, rfl, rfl, h1, r1⟩ := trodAll_cons r0
  obtain ⟨v2, vs2, d2, ds2, p2, q2, rfl, rfl, rfl, h2, r2⟩ := trodAll_cons r1
  obtain ⟨rfl, rfl, rfl⟩ := trodAll_nil r2
  obtain rfl : args = #[v0, v1, v2] := by cases args; simp_all
  obtain ⟨rfl, rfl⟩ := trodVars_none hV
  obtain ⟨a0, rfl, rfl, rfl, w0⟩ := open_string Try.underlying9 (hval 0 9 v0 rfl rfl) h0
  obtain ⟨a1, rfl, rfl, rfl, w1⟩ := open_string Try.underlying9 (hval 1 9 v1 rfl rfl) h1
  obtain ⟨a2, rfl, rfl, rfl, w2⟩ := open_string Try.underlying9 (hval 2 9 v2 rfl rfl) h2
  clear hA0 hval0
  refine (walk a0 a1 a2 W w0 w1 w2).mono fun e W' ⟨he, bel⟩ => ?_
  subst he
  exact ⟨_, rfl, _, _, _, [], _, [], hW', trodAll_mk1 (shut_bool Try.underlying4 _), (trodAll_cons_mk (shut_string Try.underlying9 w0) (trodAll_cons_mk (shut_string Try.underlying9 w1) (trodAll_cons_mk (shut_string Try.underlying9 w2) trodAll_mk0))), rfl, bel.frame _, fun h => by cases h⟩

theorem over : Rows.crcLineRow.holds Try.pinned (OpenSpec.ofChange Rows.crcLineSpec) :=
  OpenClaim.holds_of_wide 6 Try.f6 rfl rfl rfl rfl rfl rfl rfl ⟨rfl, rfl, rfl, rfl, rfl⟩ rfl rfl rfl rfl rfl (by kernel_rfl) Try.func6 (by kernel_rfl)
    (of_decide_eq_true (by kernel_rfl)) (by unfold Func.isWrapper; first | (rw [if_pos (by decide +kernel)]; kernel_rfl) | (rw [if_neg (by decide +kernel)]; exact ⟨rfl, rfl⟩))
    (fun os started H enc _ => lifted os started H enc)

theorem proved : Rows.CrcLineSaid := over
#print axioms proved
end Go.Proofs.Ytnkgkgemjledhaa.crcLine
