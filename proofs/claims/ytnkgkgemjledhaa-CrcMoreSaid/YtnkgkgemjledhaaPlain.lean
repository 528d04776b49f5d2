/- The plain laws of sums of bytes (layer 3): numbers of 32 bits as bit vectors; what one bit, one byte, a text makes of a sum; no program in sight. -/
import Derived.Laws.BitsAllLaws
namespace Go.Proofs.Ytnkgkgemjledhaa
namespace Crc

def poly : BitVec 32 := 79764919#32
def top : BitVec 32 := 2147483648#32
/-- A number of 32 bits as the walk has it. -/
@[irreducible] def U (x : BitVec 32) : Int := (x.toNat : Int)

theorem U_lo (x : BitVec 32) : 0 ≤ U x := by unfold U; omega
theorem U_hi (x : BitVec 32) : U x < 4294967296 := by unfold U; have := x.isLt; omega
theorem U_of (n : Int) (h0 : 0 ≤ n) (h1 : n < 4294967296) : ∃ c, n = U c := by
  refine ⟨BitVec.ofNat 32 n.toNat, ?_⟩
  unfold U
  rw [BitVec.toNat_ofNat, Nat.mod_eq_of_lt (by omega)]; omega
theorem U_inj {a b : BitVec 32} (h : U a = U b) : a = b := by
  unfold U at h; exact BitVec.eq_of_toNat_eq (by omega)
theorem U_beq (a b : BitVec 32) : (U a == U b) = (a == b) := by
  rw [Bool.eq_iff_iff, beq_iff_eq, beq_iff_eq]
  exact ⟨U_inj, fun h => by rw [h]⟩
theorem U_lit (n : Nat) (h : n < 4294967296) : ((n : Nat) : Int) = U (BitVec.ofNat 32 n) := by
  unfold U; rw [BitVec.toNat_ofNat, Nat.mod_eq_of_lt (by omega)]

theorem U_xor (a b : BitVec 32) : bits .xor .u32 (U a) (U b) = U (a ^^^ b) := by
  unfold U; rw [u32_xor_nat _ _ a.isLt b.isLt, BitVec.toNat_xor]
theorem U_or (a b : BitVec 32) : bits .or .u32 (U a) (U b) = U (a ||| b) := by
  unfold U; rw [u32_or_nat _ _ a.isLt b.isLt, BitVec.toNat_or]
theorem U_and (a b : BitVec 32) : bits .and .u32 (U a) (U b) = U (a &&& b) := by
  unfold U; rw [u32_and_nat _ _ a.isLt b.isLt, BitVec.toNat_and]
theorem U_dbl (a : BitVec 32) : U a * (2 : Int) % (4294967296 : Int) = U (a <<< 1) := by
  unfold U; rw [BitVec.toNat_shiftLeft, Nat.shiftLeft_eq]; simp
theorem U_dbl' (a : BitVec 32) : (2 : Int) * U a % (4294967296 : Int) = U (a <<< 1) := by
  rw [Int.mul_comm]; exact U_dbl a
theorem U_shl8 (a : BitVec 32) : U a * (256 : Int) % (4294967296 : Int) = U (a <<< 8) := by
  unfold U; rw [BitVec.toNat_shiftLeft, Nat.shiftLeft_eq]; simp
theorem U_shl31 (a : BitVec 32) : U a * (2147483648 : Int) % (4294967296 : Int) = U (a <<< 31) := by
  unfold U; rw [BitVec.toNat_shiftLeft, Nat.shiftLeft_eq]; simp
theorem U_half (a : BitVec 32) : U a / (2 : Int) = U (a >>> 1) := by
  unfold U; rw [BitVec.toNat_ushiftRight, Nat.shiftRight_eq_div_pow]; simp
theorem U_shr24 (a : BitVec 32) : U a / (16777216 : Int) = U (a >>> 24) := by
  unfold U; rw [BitVec.toNat_ushiftRight, Nat.shiftRight_eq_div_pow]; simp
theorem U_shr31 (a : BitVec 32) : U a / (2147483648 : Int) = U (a >>> 31) := by
  unfold U; rw [BitVec.toNat_ushiftRight, Nat.shiftRight_eq_div_pow]; simp
theorem msb_iff (a : BitVec 32) : a.msb = decide (2147483648 ≤ a.toNat) := by
  rw [BitVec.msb_eq_decide]
theorem U_top (a : BitVec 32) : U a / (2147483648 : Int) = if a.msb then 1 else 0 := by
  rw [msb_iff]
  have h := a.isLt
  unfold U
  by_cases h1 : 2147483648 ≤ a.toNat
  · rw [decide_eq_true h1]; simp only [if_true]; omega
  · rw [decide_eq_false h1]; simp only [Bool.false_eq_true, if_false]; omega
def rot (a : BitVec 32) : BitVec 32 := (a <<< 1) ||| (a >>> 31)
def rotr (a : BitVec 32) : BitVec 32 := (a >>> 1) ||| (a <<< 31)
theorem rot_nat (a : BitVec 32) : (rot a).toNat = 2 * a.toNat % 4294967296 + a.toNat / 2147483648 := by
  unfold rot
  rw [BitVec.toNat_or, BitVec.toNat_shiftLeft, BitVec.toNat_ushiftRight, Nat.shiftLeft_eq, Nat.shiftRight_eq_div_pow, nat_join 1 _ _ (by omega) (by have := a.isLt; omega)]
  omega
theorem rotr_nat (a : BitVec 32) : (rotr a).toNat = a.toNat / 2 + a.toNat % 2 * 2147483648 := by
  unfold rotr
  rw [BitVec.or_comm, BitVec.toNat_or, BitVec.toNat_shiftLeft, BitVec.toNat_ushiftRight, Nat.shiftLeft_eq, Nat.shiftRight_eq_div_pow, nat_join 31 _ _ (by omega) (by have := a.isLt; omega)]
  have := a.isLt
  omega
theorem U_rot (a : BitVec 32) : U (rot a) = (2 : Int) * U a % (4294967296 : Int) + U a / (2147483648 : Int) := by
  unfold U; rw [rot_nat]; omega
theorem U_rotr (a : BitVec 32) : U (rotr a) = U a / (2 : Int) + U a % (2 : Int) * (2147483648 : Int) := by
  unfold U; rw [rotr_nat]; omega
theorem rotr_rot (a : BitVec 32) : rotr (rot a) = a := by
  apply BitVec.eq_of_toNat_eq
  rw [rotr_nat, rot_nat]
  have h := a.isLt
  generalize a.toNat = n at *
  by_cases h1 : n < 2147483648
  · rw [show n / 2147483648 = 0 from by omega, show 2 * n % 4294967296 = 2 * n from by omega]; omega
  · rw [show n / 2147483648 = 1 from by omega, show 2 * n % 4294967296 = 2 * n - 4294967296 from by omega]; omega
theorem rot_rotr (a : BitVec 32) : rot (rotr a) = a := by
  apply BitVec.eq_of_toNat_eq
  rw [rot_nat, rotr_nat]
  have h := a.isLt
  generalize a.toNat = n at *
  rcases Nat.mod_two_eq_zero_or_one n with h1 | h1
  · rw [h1, show (n / 2 + 0 * 2147483648) / 2147483648 = 0 from by omega]; omega
  · rw [h1, show (n / 2 + 1 * 2147483648) / 2147483648 = 1 from by omega]; omega
theorem U_poly : (79764919 : Int) = U poly := by unfold U; rfl
theorem U_ones : (4294967295 : Int) = U (BitVec.allOnes 32) := by unfold U; rfl

/-! ### One bit, eight, many -/

/-- A bit that is 0, taken up. -/
def st (c : BitVec 32) : BitVec 32 := if c.msb then (c <<< 1) ^^^ poly else c <<< 1
def it : Nat → BitVec 32 → BitVec 32
  | 0, c => c
  | n + 1, c => st (it n c)

theorem st_xor (a b : BitVec 32) : st (a ^^^ b) = st a ^^^ st b := by
  unfold st
  rw [BitVec.msb_xor, BitVec.shiftLeft_xor_distrib]
  cases a.msb <;> cases b.msb <;> simp
  · ac_rfl
  · ac_rfl
  · rw [show a <<< 1 ^^^ poly ^^^ (b <<< 1 ^^^ poly) = (a <<< 1 ^^^ b <<< 1) ^^^ (poly ^^^ poly) from by ac_rfl, BitVec.xor_self, BitVec.xor_zero]
theorem it_xor (n : Nat) (a b : BitVec 32) : it n (a ^^^ b) = it n a ^^^ it n b := by
  induction n with
  | zero => rfl
  | succ n ih => rw [it, it, it, ih, st_xor]
theorem st_zero : st 0#32 = 0#32 := by decide
theorem it_zero (n : Nat) : it n 0#32 = 0#32 := by
  induction n with
  | zero => rfl
  | succ n ih => rw [it, ih, st_zero]
theorem it_add (m n : Nat) (c : BitVec 32) : it (m + n) c = it m (it n c) := by
  induction m with
  | zero => simp [it]
  | succ m ih => rw [Nat.succ_add, it, it, ih]
theorem st_eq_zero {c : BitVec 32} (h : st c = 0#32) : c = 0#32 := by
  unfold st at h
  have hl := c.isLt
  by_cases hm : c.msb = true
  · rw [if_pos hm] at h
    have h0 : (c <<< 1 ^^^ poly).getLsbD 0 = false := by rw [h]; rfl
    rw [BitVec.getLsbD_xor] at h0
    simp [poly] at h0
  · rw [if_neg hm] at h
    rw [msb_iff] at hm
    have h1 : (c <<< 1).toNat = 0 := by rw [h]; rfl
    rw [BitVec.toNat_shiftLeft, Nat.shiftLeft_eq] at h1
    simp at hm
    exact BitVec.eq_of_toNat_eq (by simp; omega)
theorem xor_eq_zero {a b : BitVec 32} (h : a ^^^ b = 0#32) : a = b := by
  have : a ^^^ b ^^^ b = 0#32 ^^^ b := by rw [h]
  rwa [BitVec.xor_assoc, BitVec.xor_self, BitVec.xor_zero, BitVec.zero_xor] at this
theorem st_inj {a b : BitVec 32} (h : st a = st b) : a = b := by
  refine xor_eq_zero (st_eq_zero ?_)
  rw [st_xor, h, BitVec.xor_self]
theorem it_inj (n : Nat) {a b : BitVec 32} (h : it n a = it n b) : a = b := by
  induction n with
  | zero => exact h
  | succ n ih => exact ih (st_inj h)

/-- A bit, taken up. -/
def bit (b : Bool) : BitVec 32 := if b then top else 0#32
def up (c : BitVec 32) (b : Bool) : BitVec 32 := st (c ^^^ bit b)
theorem up_eq (c : BitVec 32) (b : Bool) : up c b = if c.msb != b then (c <<< 1) ^^^ poly else c <<< 1 := by
  unfold up st bit
  have h : (top <<< 1 : BitVec 32) = 0#32 := by decide
  have hm : (top : BitVec 32).msb = true := by decide
  cases b
  · cases hc : c.msb <;> simp [hc]
  · simp only [if_true]
    rw [BitVec.msb_xor, BitVec.shiftLeft_xor_distrib, h, hm, BitVec.xor_zero]

theorem up_yes (a : BitVec 32) (b : Bool) (h : (a.msb != b) = true) : U (up a b) = bits .xor .u32 ((2 : Int) * U a % (4294967296 : Int)) (79764919 : Int) := by
  rw [up_eq, if_pos h, U_dbl', U_poly, U_xor]
theorem up_no (a : BitVec 32) (b : Bool) (h : (a.msb != b) = false) : U (up a b) = (2 : Int) * U a % (4294967296 : Int) := by
  rw [up_eq, h, U_dbl']; rfl

theorem st_yes (a : BitVec 32) (h : a.msb = true) : bits .xor .u32 (U a * (2 : Int) % (4294967296 : Int)) (79764919 : Int) = U (st a) := by
  unfold st; rw [if_pos h, U_dbl, U_poly, U_xor]
theorem st_no (a : BitVec 32) (h : a.msb = false) : U a * (2 : Int) % (4294967296 : Int) = U (st a) := by
  unfold st; rw [if_neg (by rw [h]; decide), U_dbl]
theorem and_top (a : BitVec 32) : (bits .and .u32 (U a) (2147483648 : Int) == 0) = !a.msb := by
  have h : (2147483648 : Int) = U top := by unfold U; rfl
  have h0 : (0 : Int) = U 0#32 := by unfold U; rfl
  rw [h, U_and, h0, U_beq, msb_iff]
  have e : (a &&& top).toNat = a.toNat / 2 ^ 31 % 2 * 2 ^ 31 := by rw [BitVec.toNat_and]; exact nat_bit 31 a.toNat
  have hl := a.isLt
  rw [Bool.eq_iff_iff, beq_iff_eq]
  constructor
  · intro h
    rw [h] at e
    have e2 : a.toNat / 2 ^ 31 % 2 * 2 ^ 31 = 0 := by rw [← e]; rfl
    simp; omega
  · intro h
    apply BitVec.eq_of_toNat_eq
    rw [e]
    simp at h ⊢
    omega
theorem U_place (i : Nat) (h : i < 256) : (i : Int) * (16777216 : Int) = U (BitVec.ofNat 32 i <<< 24) := by
  unfold U
  rw [BitVec.toNat_shiftLeft, BitVec.toNat_ofNat, Nat.mod_eq_of_lt (a := i) (by omega), Nat.shiftLeft_eq, Nat.mod_eq_of_lt (by omega)]
  omega

/-- A byte, taken up. -/
def wide (x : BitVec 8) : BitVec 32 := (x.setWidth 32) <<< 24
def tk (c : BitVec 32) (x : BitVec 8) : BitVec 32 := it 8 (c ^^^ wide x)
/-- The first k bits of a byte, the highest one first. -/
def feed (x : BitVec 8) : Nat → BitVec 32 → BitVec 32
  | 0, c => c
  | k + 1, c => up (feed x k c) (x.getLsbD (7 - k))
theorem feed_xor (x : BitVec 8) (k : Nat) (c : BitVec 32) : feed x k c = it k c ^^^ feed x k 0#32 := by
  induction k with
  | zero => simp [feed, it]
  | succ k ih =>
    rw [feed, feed, ih, it]
    unfold up
    rw [st_xor, st_xor, st_xor, BitVec.xor_assoc]
theorem feed_wide (x : BitVec 8) : feed x 8 0#32 = it 8 (wide x) := by
  revert x; decide +kernel
theorem feed_tk (x : BitVec 8) (c : BitVec 32) : feed x 8 c = tk c x := by
  rw [feed_xor, feed_wide, tk, it_xor]

/-- A number without high bits, behind n bits that are 0. -/
theorem it_low (n : Nat) : ∀ (c : BitVec 32), c.toNat * 2 ^ n < 4294967296 → it n c = c <<< n := by
  induction n with
  | zero => intro c _; simp [it]
  | succ n ih =>
    intro c hc
    have h2 : (2 : Nat) ^ (n + 1) = 2 * 2 ^ n := by rw [Nat.pow_succ, Nat.mul_comm]
    rw [h2] at hc
    have hc' : c.toNat * 2 ^ n * 2 < 4294967296 := by rw [Nat.mul_assoc, Nat.mul_comm (2 ^ n)]; exact hc
    rw [it, ih c (by omega)]
    unfold st
    have hm : (c <<< n).msb = false := by
      rw [msb_iff, BitVec.toNat_shiftLeft, Nat.shiftLeft_eq, Nat.mod_eq_of_lt (by omega)]
      simp; omega
    rw [hm]
    simp only [Bool.false_eq_true, if_false]
    rw [← BitVec.shiftLeft_add]

/-- What the table has at a place. -/
def tab (i : Nat) : BitVec 32 := it 8 (BitVec.ofNat 32 i <<< 24)
theorem tk_tab (c : BitVec 32) (x : BitVec 8) : tk c x = (c <<< 8) ^^^ tab ((c >>> 24).toNat ^^^ x.toNat) := by
  have hb : BitVec.ofNat 32 ((c >>> 24).toNat ^^^ x.toNat) = (c >>> 24) ^^^ x.setWidth 32 := by
    apply BitVec.eq_of_toNat_eq
    rw [BitVec.toNat_xor, BitVec.toNat_ofNat, BitVec.toNat_setWidth, Nat.mod_eq_of_lt (a := x.toNat) (by have := x.isLt; omega)]
    exact Nat.mod_eq_of_lt (Nat.xor_lt_two_pow (n := 32) (c >>> 24).isLt (by have := x.isLt; omega))
  unfold tk tab
  rw [hb, BitVec.shiftLeft_xor_distrib, it_xor, it_xor, wide, ← BitVec.xor_assoc]
  congr 1
  have hsplit : c = ((c >>> 24) <<< 24) ^^^ (c &&& 16777215#32) := by
    apply BitVec.eq_of_getLsbD_eq
    intro i hi
    simp only [BitVec.getLsbD_xor, BitVec.getLsbD_shiftLeft, BitVec.getLsbD_ushiftRight, BitVec.getLsbD_and]
    by_cases h : i < 24
    · have hlow : (16777215#32).getLsbD i = true := by
        have : ∀ j : Fin 24, (16777215#32).getLsbD j.val = true := by decide
        exact this ⟨i, h⟩
      simp [h, hlow]
    · have hlow : (16777215#32).getLsbD i = false := by
        have : ∀ j : Fin 32, ¬ j.val < 24 → (16777215#32).getLsbD j.val = false := by decide
        exact this ⟨i, hi⟩ h
      have : 24 + (i - 24) = i := by omega
      rw [hlow, this]
      simp [h, hi]
  have hlow : it 8 (c &&& 16777215#32) = c <<< 8 := by
    rw [it_low 8]
    · apply BitVec.eq_of_getLsbD_eq
      intro i hi
      simp only [BitVec.getLsbD_shiftLeft, BitVec.getLsbD_and]
      by_cases h : i < 8
      · simp [h]
      · have : ∀ j : Fin 24, (16777215#32).getLsbD j.val = true := by decide
        have h1 := this ⟨i - 8, by omega⟩
        simp only at h1
        rw [h1]; simp
    · have h1 : (c &&& 16777215#32).toNat < 2 ^ 24 := by
        rw [BitVec.toNat_and]
        exact Nat.and_lt_two_pow _ (by decide)
      omega
  conv => lhs; rw [hsplit, it_xor, hlow]
  rw [BitVec.xor_comm]

theorem U_not (a : BitVec 32) : bits .xor .u32 IntKind.u32.max (U a) = U (~~~ a) := by
  rw [show IntKind.u32.max = U (BitVec.allOnes 32) from U_ones, U_xor, BitVec.allOnes_xor]
theorem U_not' (a : BitVec 32) : bits .xor .u32 (U a) (4294967295 : Int) = U (~~~ a) := by
  rw [U_ones, U_xor, BitVec.xor_allOnes]
/-- The place in the table at which a byte looks. -/
@[irreducible] def look (X : BitVec 32) (x : UInt8) : Nat := (X >>> 24).toNat ^^^ x.toNat
theorem look_lt (X : BitVec 32) (x : UInt8) : look X x < 256 := by
  unfold look
  refine Nat.xor_lt_two_pow (n := 8) ?_ ?_
  · rw [BitVec.toNat_ushiftRight, Nat.shiftRight_eq_div_pow]; have := X.isLt; omega
  · have := x.toNat_lt; omega
theorem look_bits (X : BitVec 32) (x : UInt8) : bits .xor .u8 (U X / (16777216 : Int)) (x.toNat : Int) = (look X x : Int) := by
  unfold look U
  have e : ((X.toNat : Int) / (16777216 : Int)) = (((X >>> 24).toNat : Nat) : Int) := by
    rw [BitVec.toNat_ushiftRight, Nat.shiftRight_eq_div_pow]; omega
  rw [e, u8_xor_nat _ _ (by rw [BitVec.toNat_ushiftRight, Nat.shiftRight_eq_div_pow]; have := X.isLt; omega) (by have := x.toNat_lt; omega)]
theorem look_tk (X : BitVec 32) (x : UInt8) : bits .xor .u32 (U X * (256 : Int) % (4294967296 : Int)) (U (tab (look X x))) = U (tk X x.toBitVec) := by
  rw [U_shl8, U_xor, tk_tab]
  unfold look
  rfl

theorem bit_int (x : UInt8) (m : Nat) : (((x.toNat : Int) / (2 : Int) ^ m).tmod 2) % (4294967296 : Int) = if x.toBitVec.getLsbD m then 1 else 0 := by
  have e : ((x.toNat : Int) / (2 : Int) ^ m) = ((x.toNat / 2 ^ m : Nat) : Int) := by
    rw [Int.natCast_ediv, Int.natCast_pow]; rfl
  have h : x.toBitVec.getLsbD m = decide (x.toNat / 2 ^ m % 2 = 1) := by
    show x.toNat.testBit m = _
    rw [Nat.testBit_eq_decide_div_mod_eq]
  rw [e, h]
  generalize x.toNat / 2 ^ m = n
  rw [Int.tmod_eq_emod_of_nonneg (by omega)]
  by_cases h1 : n % 2 = 1
  · rw [decide_eq_true h1]; simp only [if_true]; omega
  · rw [decide_eq_false h1]; simp only [Bool.false_eq_true, if_false]; omega

/-- A text, taken up. -/
def feeds (c : BitVec 32) (l : List UInt8) : BitVec 32 := l.foldl (fun c x => tk c x.toBitVec) c
def more (c : BitVec 32) (l : List UInt8) : BitVec 32 := ~~~ feeds (~~~ c) l
def sum (l : List UInt8) : BitVec 32 := more 0#32 l

theorem feeds_append (c : BitVec 32) (a b : List UInt8) : feeds c (a ++ b) = feeds (feeds c a) b := by
  unfold feeds; rw [List.foldl_append]
theorem feeds_cons (c : BitVec 32) (x : UInt8) (l : List UInt8) : feeds c (x :: l) = feeds (tk c x.toBitVec) l := rfl
theorem feeds_snoc (c : BitVec 32) (l : List UInt8) (x : UInt8) : feeds c (l ++ [x]) = tk (feeds c l) x.toBitVec := by
  rw [feeds_append]; rfl
theorem more_append (c : BitVec 32) (a b : List UInt8) : more c (a ++ b) = more (more c a) b := by
  unfold more; rw [feeds_append, BitVec.not_not]
theorem sum_append (a b : List UInt8) : sum (a ++ b) = more (sum a) b := more_append _ a b

theorem tk_inj {c d : BitVec 32} {x : BitVec 8} (h : tk c x = tk d x) : c = d := by
  unfold tk at h
  have := it_inj 8 h
  have h2 : c ^^^ wide x ^^^ wide x = d ^^^ wide x ^^^ wide x := by rw [this]
  rwa [BitVec.xor_assoc, BitVec.xor_assoc, BitVec.xor_self, BitVec.xor_zero, BitVec.xor_zero] at h2
theorem feeds_inj (l : List UInt8) : ∀ {c d : BitVec 32}, feeds c l = feeds d l → c = d := by
  induction l with
  | nil => intro c d h; exact h
  | cons x l ih => intro c d h; rw [feeds_cons, feeds_cons] at h; exact tk_inj (ih h)
theorem not_inj {a b : BitVec 32} (h : ~~~ a = ~~~ b) : a = b := by
  rw [← BitVec.not_not (b := a), h, BitVec.not_not]
theorem more_inj (l : List UInt8) {c d : BitVec 32} (h : more c l = more d l) : c = d :=
  not_inj (feeds_inj l (not_inj h))
theorem more_beq (l : List UInt8) (c d : BitVec 32) : (more c l == more d l) = (c == d) := by
  rw [Bool.eq_iff_iff, beq_iff_eq, beq_iff_eq]
  exact ⟨more_inj l, fun h => by rw [h]⟩

end Crc
end Go.Proofs.Ytnkgkgemjledhaa
