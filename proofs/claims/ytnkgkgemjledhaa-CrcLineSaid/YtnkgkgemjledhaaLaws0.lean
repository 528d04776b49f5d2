/- Contracts of lists' sums, of pick and of awake. -/
import Derived.Test.YtnkgkgemjledhaaCalls
import Derived.Test.YtnkgkgemjledhaaPlain2
import Derived.Test.YtnkgkgemjledhaaOwn
import Derived.OpenShut
namespace Go.Proofs.Ytnkgkgemjledhaa
namespace Crc
open Go.RowKit
set_option linter.unusedVariables false

def all (l : List (BitVec 32)) : BitVec 32 := l.foldl fold 0#32
/-- A slice's value reads as these numbers. -/
def Row (w : World) (a : Option Addr) (l : List (BitVec 32)) : Prop :=
  l = [] ∨ ∃ b off, a = some ⟨b, off, none⟩ ∧ ∀ i (h : i < l.length), w.cell? ⟨b, off + i, none⟩ = some (.int .u32 (U l[i]))

theorem all_snoc (l : List (BitVec 32)) (k : Nat) (h : k < l.length) : all (l.take (k + 1)) = fold (all (l.take k)) l[k] := by
  unfold all
  rw [List.take_succ_eq_append_getElem h, List.foldl_append]; rfl

set_option maxRecDepth 100000 in
set_option maxHeartbeats 400000 in
theorem all_any (w : World) (a : Option Addr) (len cap : Nat) (l : List (BitVec 32)) (hl : l.length = len) (hm : len ≤ maxLen) (hr : Row w a l) :
    Calls Try.prog 18 #[.slice a len cap] w fun e w' => e = .returned (.int .u32 (U (all l))) ∧ w = w' := by
  unfold maxLen at hm
  have h0 : (0 : Int) = U 0#32 := by unfold U; rfl
  have H0 := Lib.hid h0
  have HL := Lib.hid hl
  have HR := Lib.hid hr
  clear h0 hl hr
  go_enter Try.func18, Try.ntmps18
  go_wp2
  go_loop [2, 7] (fun x i => ∃ k : Nat, k ≤ len ∧ i = .int .i64 k ∧ x = .int .u32 (U (all (l.take k)))) (fun _ i => len - (intOf i).toNat)
  case atStart => exact ⟨0, by omega, rfl, by rw [H0.out]; rfl⟩
  case round =>
    obtain ⟨k, hk, rfl, rfl⟩ := hrel
    have hL := HL.out
    by_cases hlt : k < len
    · have hl2 : k < l.length := by omega
      have hs := all_snoc l k hl2
      have HS := Lib.hid hs
      clear hs
      rcases HR.out with h | ⟨b, off, rfl, hc⟩
      · subst h; simp at hl2
      · have hck := hc k hl2
        clear hc hL
        obtain ⟨X, hX⟩ : ∃ X, X = all (l.take k) := ⟨_, rfl⟩
        obtain ⟨Y, hY⟩ : ∃ Y, Y = l[k] := ⟨_, rfl⟩
        rw [← hX]
        rw [← hY] at hck
        have HX := Lib.hid hX
        have HY := Lib.hid hY
        clear hX hY
        go_wp2_with (go_at_call 14; refine (fold_any _ _ _).mono ?_; rintro e w' ⟨rfl, rfl⟩)
        go_round
        case rel => exact ⟨k + 1, by omega, by go_num, by rw [HS.out, ← HX.out, ← HY.out]⟩
        case measure => simp [intOf]; omega
    · clear hL
      go_wp2
      go_ret
      refine ⟨ret_int ?_, rfl⟩
      rw [List.take_of_length_le (by have := HL.out; omega)]

set_option maxRecDepth 100000 in
set_option maxHeartbeats 400000 in
theorem rall_any (w : World) (a : Option Addr) (len cap : Nat) (l : List (BitVec 32)) (hl : l.length = len) (hm : len ≤ maxLen) (hr : Row w a l) :
    Calls Try.prog 19 #[.slice a len cap] w fun e w' => e = .returned (.int .u32 (U (all l))) ∧ w = w' := by
  unfold maxLen at hm
  have h0 : (0 : Int) = U 0#32 := by unfold U; rfl
  have H0 := Lib.hid h0
  have HL := Lib.hid hl
  have HR := Lib.hid hr
  clear h0 hl hr
  go_enter Try.func19, Try.ntmps19
  go_wp2
  go_loop [3, 4] (fun x i => ∃ k : Nat, k ≤ len ∧ i = .int .i64 k ∧ x = .int .u32 (U (all (l.take k)))) (fun _ i => len - (intOf i).toNat)
  case atStart => exact ⟨0, by omega, rfl, by rw [H0.out]; rfl⟩
  case round =>
    obtain ⟨k, hk, rfl, rfl⟩ := hrel
    have hL := HL.out
    by_cases hlt : k < len
    · have hl2 : k < l.length := by omega
      have hs := all_snoc l k hl2
      have HS := Lib.hid hs
      clear hs
      rcases HR.out with h | ⟨b, off, rfl, hc⟩
      · subst h; simp at hl2
      · have hck := hc k hl2
        clear hc hL
        obtain ⟨X, hX⟩ : ∃ X, X = all (l.take k) := ⟨_, rfl⟩
        obtain ⟨Y, hY⟩ : ∃ Y, Y = l[k] := ⟨_, rfl⟩
        rw [← hX]
        rw [← hY] at hck
        have HX := Lib.hid hX
        have HY := Lib.hid hY
        clear hX hY
        go_wp2_with (go_at_call 15; refine (rfold_any _ _ _).mono ?_; rintro e w' ⟨rfl, rfl⟩)
        go_round
        case rel => exact ⟨k + 1, by omega, by go_num, by rw [HS.out, ← HX.out, ← HY.out]⟩
        case measure => simp [intOf]; omega
    · clear hL
      go_wp2
      go_ret
      refine ⟨ret_int ?_, rfl⟩
      rw [List.take_of_length_le (by have := HL.out; omega)]

theorem Row.below {w w' : World} {a : Option Addr} {l : List (BitVec 32)} (h : Row w a l) (hb : Below w.heap.size w w') : Row w' a l := by
  rcases h with h | ⟨b, off, ha, hc⟩
  · exact .inl h
  · refine .inr ⟨b, off, ha, fun i hi => ?_⟩
    have h1 := hc i hi
    rw [hb.cell (block_lt_of_cell h1), h1]
set_option maxRecDepth 100000 in
set_option maxHeartbeats 400000 in
theorem rsum_any (s : ByteArray) (hs : s.size ≤ maxLen) (w : World) :
    Calls Try.prog 11 #[.string s] w fun e w' => e = .returned (.int .u32 (U (sum s.data.toList))) ∧ w = w' := by
  have h0 : (0 : Int) = U 0#32 := by unfold U; rfl
  go_enter Try.func11, Try.ntmps11
  go_wp2_with fail
  rw [h0]
  refine (rmore_any _ s hs _).mono ?_
  rintro e w1 ⟨rfl, rfl⟩
  go_wp2
  go_ret
  exact ⟨rfl, rfl⟩
theorem addr_add (b off i : Nat) : (⟨b, off, none⟩ : Addr).add i = ⟨b, off + i, none⟩ := by
  unfold Addr.add; split <;> simp_all
/-- A slice of numbers of 32 bits that came in, and each beginning of it. -/
theorem row_of (w : World) (x : Addr) (zs : List Int) (hcell : ∀ i, i < zs.length → w.cell? (x.add i) = some (.int .u32 (zs.getD i 0))) (hwz : ∀ n ∈ zs, (Lit.int .u32 n).wf = true) :
    ∃ l : List (BitVec 32), l.length = zs.length ∧ ∀ m, Row w (some x) (l.take m) := by
  have hU : ∀ n : Int, (Lit.int .u32 n).wf = true → U (BitVec.ofNat 32 n.toNat) = n := by
    intro n hn
    obtain ⟨h0, h1⟩ := bounds_u32 hn
    unfold U
    rw [BitVec.toNat_ofNat, Nat.mod_eq_of_lt (by omega)]; omega
  refine ⟨zs.map fun n => BitVec.ofNat 32 n.toNat, by simp, fun m => ?_⟩
  by_cases hz : zs = []
  · subst hz; left; simp
  · right
    have hpos : 0 < zs.length := List.length_pos_iff.2 hz
    have h0 := hcell 0 hpos
    obtain ⟨b, off, spot⟩ := x
    have hspot : spot = none := by simpa [Addr.add] using World.cell?_spot h0
    subst hspot
    refine ⟨b, off, rfl, fun i hi => ?_⟩
    have hi2 : i < zs.length := by simp at hi; omega
    have h := hcell i hi2
    rw [addr_add] at h
    rw [h, List.getElem_take, List.getElem_map, hU _ (hwz _ (List.getElem_mem hi2))]
    simp [hi2]

/-- Which of n things a raw number speaks of. -/
@[irreducible] def pk (c n : Int) : Int := if c < 0 then -(c + 1) % n else c % n
theorem pk_lo (c n : Int) (h : 1 ≤ n) : 0 ≤ pk c n := by
  unfold pk; split <;> exact Int.emod_nonneg _ (by omega)
theorem pk_hi (c n : Int) (h : 1 ≤ n) : pk c n < n := by
  unfold pk; split <;> exact Int.emod_lt_of_pos _ (by omega)

set_option maxRecDepth 100000 in
set_option maxHeartbeats 400000 in
theorem pick_any (c n : Int) (w : World) (h1 : -9223372036854775808 ≤ c) (h2 : c ≤ 9223372036854775807) (h3 : 1 ≤ n) (h4 : n ≤ 9223372036854775807) :
    Calls Try.prog 20 #[.int .i64 c, .int .i64 n] w fun e w' => e = .returned (.int .i64 (pk c n)) ∧ w = w' := by
  have hpk : pk c n = if c < 0 then -(c + 1) % n else c % n := by unfold pk; rfl
  have HP := Lib.hid hpk
  clear hpk
  have hn : (n == 0) = false := by simp; omega
  by_cases hc : c < 0
  all_goals
    go_enter Try.func20, Try.ntmps20
    go_wp2
    go_ret
    refine ⟨ret_int ?_, rfl⟩
    rw [HP.out]
    first
      | (rw [if_pos hc, ← Int.neg_tmod, Int.tmod_eq_emod_of_nonneg (by omega)])
      | rw [if_neg (by omega)]

theorem fixed : sum [] = 0#32 ∧ sum [49, 50, 51, 52, 53, 54, 55, 56, 57] = 4236843288#32 ∧ fold 2147483648#32 0#32 = 1#32 ∧ unfold 1#32 0#32 = 2147483648#32 ∧
    all [1#32, 2#32] = 0#32 ∧ all [] = 0#32 ∧ more (sum [49, 50, 51, 52]) [53, 54, 55, 56, 57] = 4236843288#32 := by
  decide +kernel

theorem U_num (n : Nat) (c : BitVec 32) (h : c.toNat = n) : U c = (n : Int) := by unfold U; rw [h]
theorem sum_lit (l : List UInt8) (n : Nat) (hl : l.length ≤ 100) (h : (sum l).toNat = n) (w : World) :
    Calls Try.prog 10 #[.string ⟨l.toArray⟩] w fun e w' => e = .returned (.int .u32 (n : Int)) ∧ Below w.heap.size w w' := by
  refine (sum_any ⟨l.toArray⟩ (by show l.toArray.size ≤ _; unfold maxLen; simp; omega) w).mono ?_
  rintro e w' ⟨rfl, hb⟩
  exact ⟨by rw [← U_num n _ h], hb⟩
theorem more_lit (c : BitVec 32) (k : Nat) (hc : c.toNat = k) (l : List UInt8) (n : Nat) (hl : l.length ≤ 100) (h : (more c l).toNat = n) (w : World) :
    Calls Try.prog 12 #[.int .u32 (k : Int), .string ⟨l.toArray⟩] w fun e w' => e = .returned (.int .u32 (n : Int)) ∧ Below w.heap.size w w' := by
  rw [← U_num k c hc]
  refine (more_any c ⟨l.toArray⟩ (by show l.toArray.size ≤ _; unfold maxLen; simp; omega) w).mono ?_
  rintro e w' ⟨rfl, hb⟩
  exact ⟨by rw [← U_num n _ h], hb⟩
theorem fold_lit (a b : BitVec 32) (m k n : Nat) (ha : a.toNat = m) (hb : b.toNat = k) (h : (fold a b).toNat = n) (w : World) :
    Calls Try.prog 14 #[.int .u32 (m : Int), .int .u32 (k : Int)] w fun e w' => e = .returned (.int .u32 (n : Int)) ∧ w = w' := by
  rw [← U_num m a ha, ← U_num k b hb, ← U_num n _ h]
  exact fold_any a b w
theorem unfold_lit (a b : BitVec 32) (m k n : Nat) (ha : a.toNat = m) (hb : b.toNat = k) (h : (unfold a b).toNat = n) (w : World) :
    Calls Try.prog 16 #[.int .u32 (m : Int), .int .u32 (k : Int)] w fun e w' => e = .returned (.int .u32 (n : Int)) ∧ w = w' := by
  rw [← U_num m a ha, ← U_num k b hb, ← U_num n _ h]
  exact unfold_any a b w

theorem all_two (w : World) (t : TypeId) :
    Calls Try.prog 18 #[.slice (some ⟨w.heap.size, 0, none⟩) 2 2] (w.alloc (.cells #[.int .u32 1, .int .u32 2] t)) fun e w' => e = .returned (.int .u32 0) ∧ w.alloc (.cells #[.int .u32 1, .int .u32 2] t) = w' := by
  refine (all_any (w.alloc (.cells #[.int .u32 1, .int .u32 2] t)) _ 2 2 [1#32, 2#32] rfl (by decide) (.inr ⟨_, _, rfl, ?_⟩)).mono ?_
  · intro i h
    have h1 : (1 : Int) = U 1#32 := by unfold U; rfl
    have h2 : (2 : Int) = U 2#32 := by unfold U; rfl
    rw [h1, h2]
    match i, h with
    | 0, _ => simp
    | 1, _ => simp
  · rintro e w' ⟨rfl, rfl⟩
    exact ⟨by rw [U_num 0 _ (by decide +kernel)]; rfl, rfl⟩
theorem all_none (w : World) :
    Calls Try.prog 18 #[.slice none 0 0] w fun e w' => e = .returned (.int .u32 0) ∧ w = w' := by
  refine (all_any w _ 0 0 [] rfl (by decide) (.inl rfl)).mono ?_
  rintro e w' ⟨rfl, rfl⟩
  exact ⟨by rw [U_num 0 _ (by decide +kernel)]; rfl, rfl⟩

set_option maxRecDepth 100000 in
set_option maxHeartbeats 400000 in
theorem awake_any (w : World) :
    Calls Try.prog 9 #[] w fun e w' => e = .returned (.bool true) ∧ Below w.heap.size w w' := by
  go_enter Try.func9, Try.ntmps9
  go_wp2_with fail
  refine (sum_lit [] 0 (by decide) (by decide +kernel) _).mono ?_
  rintro e w1 ⟨rfl, b1⟩
  go_wp2_with fail
  refine (sum_lit [49, 50, 51, 52, 53, 54, 55, 56, 57] 4236843288 (by decide) (by decide +kernel) _).mono ?_
  rintro e w2 ⟨rfl, b2⟩
  go_wp2_with fail
  refine (fold_lit 2147483648#32 0#32 2147483648 0 1 rfl rfl (by decide +kernel) _).mono ?_
  rintro e w3 ⟨rfl, rfl⟩
  go_wp2_with fail
  refine (unfold_lit 1#32 0#32 1 0 2147483648 rfl rfl (by decide +kernel) _).mono ?_
  rintro e w4 ⟨rfl, rfl⟩
  go_wp2_with fail
  refine (all_two _ _).mono ?_
  rintro e w5 ⟨rfl, rfl⟩
  go_wp2_with fail
  refine (all_none _).mono ?_
  rintro e w6 ⟨rfl, rfl⟩
  go_wp2_with fail
  refine (sum_lit [49, 50, 51, 52] 1500134229 (by decide) (by decide +kernel) _).mono ?_
  rintro e w7 ⟨rfl, b7⟩
  go_wp2_with fail
  refine (more_lit 1500134229#32 1500134229 rfl [53, 54, 55, 56, 57] 4236843288 (by decide) (by decide +kernel) _).mono ?_
  rintro e w8 ⟨rfl, b8⟩
  go_wp2
  go_ret
  have s1 := b1.size
  have s2 := b2.size
  have s7 := b7.size
  have s8 := b8.size
  simp at s7
  refine ⟨rfl, b1.trans ((b2.mono s1).trans ((((Below.refl _ _).alloc (by omega) _).trans (b7.mono (by simp; omega))).trans (b8.mono (by omega))))⟩

/-! ### Texts made of parts -/

theorem le_max {s : ByteArray} {n : Nat} (h : s.size ≤ n) (hn : n ≤ 1000) : s.size ≤ maxLen := by unfold maxLen; omega
/-- Four bytes that were made here, as a text. -/
theorem back4 (w : World) (x0 x1 x2 x3 : UInt8) :
    (convert 32 9 (.slice (some ⟨w.heap.size, 0, none⟩) 4 4)).run Try.prog (w.alloc (.cells #[.int .u8 (x0.toNat : Int), .int .u8 (x1.toNat : Int), .int .u8 (x2.toNat : Int), .int .u8 (x3.toNat : Int)] 5)) =
      .ok (.string ⟨#[x0, x1, x2, x3]⟩) (w.alloc (.cells #[.int .u8 (x0.toNat : Int), .int .u8 (x1.toNat : Int), .int .u8 (x2.toNat : Int), .int .u8 (x3.toNat : Int)] 5)) := by
  refine run_convert_bytes_back _ 32 9 5 ⟨w.heap.size, 0, none⟩ 4 [x0, x1, x2, x3] Try.underlying32 Try.underlying5 Try.underlying9 ?_
  intro j hj
  rw [addr_add]
  match j, hj with
  | 0, _ => simp
  | 1, _ => simp
  | 2, _ => simp
  | 3, _ => simp
theorem back4' (w : World) (o : Obj) (x0 x1 x2 x3 : UInt8) :
    (convert 32 9 (.slice (some ⟨w.heap.size + 1, 0, none⟩) 4 4)).run Try.prog ((w.alloc o).alloc (.cells #[.int .u8 (x0.toNat : Int), .int .u8 (x1.toNat : Int), .int .u8 (x2.toNat : Int), .int .u8 (x3.toNat : Int)] 5)) =
      .ok (.string ⟨#[x0, x1, x2, x3]⟩) ((w.alloc o).alloc (.cells #[.int .u8 (x0.toNat : Int), .int .u8 (x1.toNat : Int), .int .u8 (x2.toNat : Int), .int .u8 (x3.toNat : Int)] 5)) := by
  have h := back4 (w.alloc o) x0 x1 x2 x3
  rwa [show (w.alloc o).heap.size = w.heap.size + 1 from by simp] at h
/-- A text's sum, told behind it. -/
theorem tail_any (t : ByteArray) (ht : t.size ≤ 100) (x0 x1 x2 x3 : UInt8) (c : BitVec 32) (hc : c = sum t.data.toList) (h0 : x0 = byt c 24) (h1 : x1 = byt c 16) (h2 : x2 = byt c 8) (h3 : x3 = byt c 0) (w : World) :
    Calls Try.prog 10 #[.string (t ++ ⟨#[x0, x1, x2, x3]⟩)] w fun e w' => e = .returned (.int .u32 (U rest)) ∧ Below w.heap.size w w' := by
  refine (sum_any _ (by unfold maxLen; rw [ByteArray.size_append]; show t.size + 4 ≤ _; omega) w).mono ?_
  rintro e w' ⟨rfl, hb⟩
  refine ⟨ret_int (congrArg U ?_), hb⟩
  subst hc h0 h1 h2 h3
  exact sum_tail t.data.toList

/-! ### Arrays of four bytes -/

theorem u8_of {n : Int} (h : (Lit.int .u8 n).wf = true) : ∃ x : UInt8, n = (x.toNat : Int) := by
  obtain ⟨h0, h1⟩ := bounds_u8 h
  refine ⟨UInt8.ofNat n.toNat, ?_⟩
  rw [UInt8.toNat_ofNat']
  omega
/-- A variable that holds four bytes. -/
def Held (w : World) (b : Nat) (x0 x1 x2 x3 : UInt8) : Prop :=
  w.heap[b]? = some (.cells #[.int .u8 (x0.toNat : Int), .int .u8 (x1.toNat : Int), .int .u8 (x2.toNat : Int), .int .u8 (x3.toNat : Int)] 31)
theorem Held.below {w w' : World} {b B : Nat} {x0 x1 x2 x3 : UInt8} (h : Held w b x0 x1 x2 x3) (hb : Below B w w') (hB : b < B) : Held w' b x0 x1 x2 x3 := by
  unfold Held at *; rw [hb.block b hB, h]
theorem Held.text {w : World} {b : Nat} {x0 x1 x2 x3 : UInt8} (h : Held w b x0 x1 x2 x3) :
    (convert 32 9 (.slice (some ⟨b, 0, none⟩) 4 4)).run Try.prog w = .ok (.string ⟨#[x0, x1, x2, x3]⟩) w := by
  refine run_convert_bytes_back _ 32 9 5 ⟨b, 0, none⟩ 4 [x0, x1, x2, x3] Try.underlying32 Try.underlying5 Try.underlying9 ?_
  intro j hj
  rw [addr_add, cell_of_row w b _ _ _ _ h]
  match j, hj with
  | 0, _ => simp
  | 1, _ => simp
  | 2, _ => simp
  | 3, _ => simp
theorem four_any (t : ByteArray) (ht : t.size ≤ 100) (x0 x1 x2 x3 : UInt8) (p : BitVec 32) (hp : sum (t.data.toList ++ [x0, x1, x2, x3]) = p) (w : World) :
    Calls Try.prog 10 #[.string (t ++ ⟨#[x0, x1, x2, x3]⟩)] w fun e w' => e = .returned (.int .u32 (U p)) ∧ Below w.heap.size w w' := by
  refine (sum_any _ (by unfold maxLen; rw [ByteArray.size_append]; show t.size + 4 ≤ _; omega) w).mono ?_
  rintro e w' ⟨rfl, hb⟩
  refine ⟨ret_int (congrArg U ?_), hb⟩
  subst hp
  rfl
theorem cat_any (t u : ByteArray) (ht : t.size ≤ 100) (hu : u.size ≤ 100) (p : BitVec 32) (hp : more (sum t.data.toList) u.data.toList = p) (w : World) :
    Calls Try.prog 10 #[.string (t ++ u)] w fun e w' => e = .returned (.int .u32 (U p)) ∧ Below w.heap.size w w' := by
  refine (sum_any _ (by unfold maxLen; rw [ByteArray.size_append]; omega) w).mono ?_
  rintro e w' ⟨rfl, hb⟩
  refine ⟨ret_int (congrArg U ?_), hb⟩
  subst hp
  rw [← sum_append, ByteArray.data_append, Array.toList_append]
theorem held_two (w : World) (x0 x1 x2 x3 y0 y1 y2 y3 : UInt8) :
    Held ((w.alloc (.cells #[.int .u8 (x0.toNat : Int), .int .u8 (x1.toNat : Int), .int .u8 (x2.toNat : Int), .int .u8 (x3.toNat : Int)] 31)).alloc (.cells #[.int .u8 (y0.toNat : Int), .int .u8 (y1.toNat : Int), .int .u8 (y2.toNat : Int), .int .u8 (y3.toNat : Int)] 31)) w.heap.size x0 x1 x2 x3 ∧
    Held ((w.alloc (.cells #[.int .u8 (x0.toNat : Int), .int .u8 (x1.toNat : Int), .int .u8 (x2.toNat : Int), .int .u8 (x3.toNat : Int)] 31)).alloc (.cells #[.int .u8 (y0.toNat : Int), .int .u8 (y1.toNat : Int), .int .u8 (y2.toNat : Int), .int .u8 (y3.toNat : Int)] 31)) (w.heap.size + 1) y0 y1 y2 y3 :=
  ⟨heap_alloc2_old w _ _, heap_alloc2_new w _ _⟩
theorem more_ne {c d : BitVec 32} (h : ¬ c = d) (l : List UInt8) : (U (more c l) == U (more d l)) = false := by
  rw [U_beq, more_beq]; simpa using h
theorem U_ne {c d : BitVec 32} (h : ¬ c = d) : (U c == U d) = false := by rw [U_beq]; simpa using h
theorem four_ne {x0 x1 x2 x3 y0 y1 y2 y3 : UInt8} (h : ¬ (x0 = y0 ∧ x1 = y1 ∧ x2 = y2 ∧ x3 = y3)) (l : List UInt8) : (U (sum (l ++ [x0, x1, x2, x3])) == U (sum (l ++ [y0, y1, y2, y3]))) = false := by
  refine U_ne fun e => h (four_inj l _ _ _ _ _ _ _ _ e)
theorem Held.cells {w : World} {b : Nat} {x0 x1 x2 x3 : UInt8} (h : Held w b x0 x1 x2 x3) :
    w.cell? ⟨b, 0, none⟩ = some (.int .u8 (x0.toNat : Int)) ∧ w.cell? ⟨b, 1, none⟩ = some (.int .u8 (x1.toNat : Int)) ∧ w.cell? ⟨b, 2, none⟩ = some (.int .u8 (x2.toNat : Int)) ∧ w.cell? ⟨b, 3, none⟩ = some (.int .u8 (x3.toNat : Int)) := by
  refine ⟨?_, ?_, ?_, ?_⟩ <;> rw [cell_of_row w b _ _ _ _ h] <;> simp
theorem eq_four (x0 x1 x2 x3 y0 y1 y2 y3 : Int) (w : World) : (Op.equalIn 10000 31 (.agg #[.int .u8 x0, .int .u8 x1, .int .u8 x2, .int .u8 x3]) (.agg #[.int .u8 y0, .int .u8 y1, .int .u8 y2, .int .u8 y3])).run Try.prog w =
    .ok (x0 == y0 && (x1 == y1 && (x2 == y2 && x3 == y3))) w := by
  have u3 := Try.underlying5
  have a3 := Try.isAgg5
  have z3 := Try.sizeOf5
  rw [show (10000 : Nat) = 9999 + 1 from rfl, Op.equalIn]
  simp only [Sem.run_bind, run_underlying Try.underlying31, Result.andThen_ok]
  simp only [Std.Legacy.Range.forIn_eq_forIn_range', Std.Legacy.Range.size, Nat.sub_zero, Nat.add_sub_cancel, Nat.div_one, List.range'_succ, List.range'_zero, List.forIn_cons, List.forIn_nil]
  go_simp
  by_cases h0 : x0 = y0 <;> by_cases h1 : x1 = y1 <;> by_cases h2 : x2 = y2 <;> by_cases h3 : x3 = y3 <;> simp [h0, h1, h2, h3]
theorem eq_yes (x0 x1 x2 x3 : UInt8) (w : World) : (Op.equalIn 10000 31 (.agg #[.int .u8 (x0.toNat : Int), .int .u8 (x1.toNat : Int), .int .u8 (x2.toNat : Int), .int .u8 (x3.toNat : Int)]) (.agg #[.int .u8 (x0.toNat : Int), .int .u8 (x1.toNat : Int), .int .u8 (x2.toNat : Int), .int .u8 (x3.toNat : Int)])).run Try.prog w = .ok true w := by
  rw [eq_four]; simp
theorem eq_no {x0 x1 x2 x3 y0 y1 y2 y3 : UInt8} (h : ¬ (x0 = y0 ∧ x1 = y1 ∧ x2 = y2 ∧ x3 = y3)) (w : World) : (Op.equalIn 10000 31 (.agg #[.int .u8 (x0.toNat : Int), .int .u8 (x1.toNat : Int), .int .u8 (x2.toNat : Int), .int .u8 (x3.toNat : Int)]) (.agg #[.int .u8 (y0.toNat : Int), .int .u8 (y1.toNat : Int), .int .u8 (y2.toNat : Int), .int .u8 (y3.toNat : Int)])).run Try.prog w = .ok false w := by
  rw [eq_four]
  congr 1
  rw [Bool.eq_false_iff]
  intro h1
  simp at h1
  refine h ⟨?_, ?_, ?_, ?_⟩
  · exact UInt8.toNat_inj.1 (by omega)
  · exact UInt8.toNat_inj.1 (by omega)
  · exact UInt8.toNat_inj.1 (by omega)
  · exact UInt8.toNat_inj.1 (by omega)

/-! ### Lists -/

theorem unfold_fold (c d : BitVec 32) : unfold (fold c d) d = c := by
  unfold unfold fold
  rw [BitVec.xor_assoc, BitVec.xor_self, BitVec.xor_zero, rotr_rot]
theorem fold_unfold (c d : BitVec 32) : fold (unfold c d) d = c := by
  unfold unfold fold
  rw [rot_rotr, BitVec.xor_assoc, BitVec.xor_self, BitVec.xor_zero]
theorem all_more (l : List (BitVec 32)) (c : BitVec 32) : all (l ++ [c]) = fold (all l) c := by
  unfold all; rw [List.foldl_append]; rfl
theorem fold_inj1 {a b d : BitVec 32} (h : fold a d = fold b d) : a = b := by
  rw [← unfold_fold a d, h, unfold_fold]
theorem fold_inj2 {a x d : BitVec 32} (h : fold a (x ^^^ d) = fold a x) : d = 0#32 := by
  unfold fold at h
  have h1 : rot a ^^^ x ^^^ (rot a ^^^ (x ^^^ d)) = 0#32 := by rw [h, BitVec.xor_self]
  rw [show rot a ^^^ x ^^^ (rot a ^^^ (x ^^^ d)) = (rot a ^^^ rot a) ^^^ (x ^^^ x) ^^^ d from by ac_rfl] at h1
  simpa using h1
theorem foldl_inj (l : List (BitVec 32)) : ∀ {a b : BitVec 32}, l.foldl fold a = l.foldl fold b → a = b := by
  induction l with
  | nil => intro a b h; exact h
  | cons x l ih => intro a b h; exact fold_inj1 (ih h)
/-- Lists unlike in one place have unlike sums. -/
theorem all_set (l : List (BitVec 32)) (k : Nat) (hk : k < l.length) (d : BitVec 32) (hd : ¬ d = 0#32) : ¬ all (l.set k (l[k] ^^^ d)) = all l := by
  intro h
  have e1 : l.set k (l[k] ^^^ d) = l.take k ++ (l[k] ^^^ d) :: l.drop (k + 1) := List.set_eq_take_append_cons_drop ▸ by rw [if_pos hk]
  have e2 : l = l.take k ++ l[k] :: l.drop (k + 1) := by
    rw [List.getElem_cons_drop, List.take_append_drop]
  rw [e1] at h
  conv at h => rhs; rw [e2]
  unfold all at h
  rw [List.foldl_append, List.foldl_append, List.foldl_cons, List.foldl_cons] at h
  exact hd (fold_inj2 (foldl_inj _ h))

def val (x : BitVec 32) : Value := .int .u32 (U x)
theorem Row.src {w : World} {a : Option Addr} {l : List (BitVec 32)} (h : Row w a l) : Kit.Src w a (l.map val) := by
  intro j u hu
  rw [List.getElem?_map] at hu
  rcases h with rfl | ⟨b, off, ha, hc⟩
  · simp at hu
  · obtain ⟨x, hx, rfl⟩ := Option.map_eq_some_iff.1 hu
    obtain ⟨hj, rfl⟩ := List.getElem?_eq_some_iff.1 hx
    exact ⟨b, off, ha, hc j hj⟩
theorem row_src {w : World} {a : Option Addr} {l : List (BitVec 32)} (h : Kit.Src w a (l.map val)) : Row w a l := by
  by_cases hl : l = []
  · exact .inl hl
  · have hpos : 0 < l.length := List.length_pos_iff.2 hl
    obtain ⟨b, off, ha, _⟩ := h 0 (val l[0]) (by rw [List.getElem?_map, List.getElem?_eq_getElem hpos]; rfl)
    refine .inr ⟨b, off, ha, fun i hi => ?_⟩
    obtain ⟨b', off', ha', hc⟩ := h i (val l[i]) (by rw [List.getElem?_map, List.getElem?_eq_getElem hi]; rfl)
    rw [ha] at ha'
    injection ha' with ha'
    injection ha' with h1 h2
    subst h1 h2
    exact hc
theorem one32 : Kit.One Try.prog 23 22 4 := ⟨Try.underlying23, .int .u32 0, by kernel_rfl, rfl⟩
theorem val_one (l : List (BitVec 32)) : ∀ u ∈ l.map val, u.oneCell' = true := by
  intro u hu
  obtain ⟨x, _, rfl⟩ := List.mem_map.1 hu
  rfl
/-- One number of a list put together with another one: what All tells then. -/
theorem set_beq (l : List (BitVec 32)) (k : Nat) (hk : k < l.length) (d : BitVec 32) : ((U (all (l.set k (l[k] ^^^ d))) == U (all l)) == (U d == 0)) = true := by
  have h0 : (0 : Int) = U 0#32 := by unfold U; rfl
  rw [h0, U_beq, U_beq]
  by_cases hd : d = 0#32
  · subst hd
    simp
  · have h1 := all_set l k hk d hd
    have e1 : (all (l.set k (l[k] ^^^ d)) == all l) = false := by simpa using h1
    have e2 : (d == 0#32) = false := by simpa using hd
    rw [e1, e2]; rfl
theorem sum_is (s : ByteArray) (p : BitVec 32) (hs : s.size ≤ 1000) (h : sum s.data.toList = p) (w : World) :
    Calls Try.prog 10 #[.string s] w fun e w' => e = .returned (.int .u32 (U p)) ∧ Below w.heap.size w w' := by
  subst h; exact sum_any s (by unfold maxLen; omega) w
end Crc
end Go.Proofs.Ytnkgkgemjledhaa
