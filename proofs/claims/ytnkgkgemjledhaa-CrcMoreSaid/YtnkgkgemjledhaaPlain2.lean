/- The plain laws behind the theorems of layer 3: four bytes as one number; texts put together by exclusive or; bits that are turned; no program in sight. -/
import Derived.Test.YtnkgkgemjledhaaPlain
namespace Go.Proofs.Ytnkgkgemjledhaa
namespace Crc

/-! ### Four bytes -/

def w1 (x : BitVec 8) : BitVec 32 := (x.setWidth 32) <<< 16
def w2 (x : BitVec 8) : BitVec 32 := (x.setWidth 32) <<< 8
def w3 (x : BitVec 8) : BitVec 32 := x.setWidth 32
def word (x0 x1 x2 x3 : BitVec 8) : BitVec 32 := wide x0 ^^^ w1 x1 ^^^ w2 x2 ^^^ w3 x3

theorem set_nat (x : BitVec 8) : (x.setWidth 32).toNat = x.toNat := by
  rw [BitVec.toNat_setWidth]; have := x.isLt; omega
theorem it_w1 (x : BitVec 8) : it 8 (w1 x) = wide x := by
  have h := x.isLt
  unfold w1 wide
  rw [it_low 8, ← BitVec.shiftLeft_add]
  rw [BitVec.toNat_shiftLeft, set_nat, Nat.shiftLeft_eq, Nat.mod_eq_of_lt (by omega)]; omega
theorem it_w2 (x : BitVec 8) : it 16 (w2 x) = wide x := by
  have h := x.isLt
  unfold w2 wide
  rw [it_low 16, ← BitVec.shiftLeft_add]
  rw [BitVec.toNat_shiftLeft, set_nat, Nat.shiftLeft_eq, Nat.mod_eq_of_lt (by omega)]; omega
theorem it_w3 (x : BitVec 8) : it 24 (w3 x) = wide x := by
  have h := x.isLt
  unfold w3 wide
  rw [it_low 24]
  rw [set_nat]; omega
theorem feeds4 (c : BitVec 32) (x0 x1 x2 x3 : UInt8) : feeds c [x0, x1, x2, x3] = it 32 (c ^^^ word x0.toBitVec x1.toBitVec x2.toBitVec x3.toBitVec) := by
  have e : feeds c [x0, x1, x2, x3] = tk (tk (tk (tk c x0.toBitVec) x1.toBitVec) x2.toBitVec) x3.toBitVec := rfl
  rw [e]
  unfold word tk
  rw [← it_w1 x1.toBitVec, ← it_xor, ← it_add, ← it_w2 x2.toBitVec, ← it_xor, ← it_add, ← it_w3 x3.toBitVec, ← it_xor, ← it_add]
  congr 1
  simp only [BitVec.xor_assoc]

theorem cases8 {p : Nat → Prop} (h0 : p 0) (h1 : p 1) (h2 : p 2) (h3 : p 3) (h4 : p 4) (h5 : p 5) (h6 : p 6) (h7 : p 7) : ∀ i, i < 8 → p i := by
  intro i hi
  have : i = 0 ∨ i = 1 ∨ i = 2 ∨ i = 3 ∨ i = 4 ∨ i = 5 ∨ i = 6 ∨ i = 7 := by omega
  rcases this with rfl | rfl | rfl | rfl | rfl | rfl | rfl | rfl <;> assumption

theorem word0 (x0 x1 x2 x3 : BitVec 8) : ((word x0 x1 x2 x3) >>> 24).setWidth 8 = x0 := by
  apply BitVec.eq_of_getLsbD_eq
  refine cases8 ?_ ?_ ?_ ?_ ?_ ?_ ?_ ?_ <;> simp [word, wide, w1, w2, w3]
theorem word1 (x0 x1 x2 x3 : BitVec 8) : ((word x0 x1 x2 x3) >>> 16).setWidth 8 = x1 := by
  apply BitVec.eq_of_getLsbD_eq
  refine cases8 ?_ ?_ ?_ ?_ ?_ ?_ ?_ ?_ <;> simp [word, wide, w1, w2, w3]
theorem word2 (x0 x1 x2 x3 : BitVec 8) : ((word x0 x1 x2 x3) >>> 8).setWidth 8 = x2 := by
  apply BitVec.eq_of_getLsbD_eq
  refine cases8 ?_ ?_ ?_ ?_ ?_ ?_ ?_ ?_ <;> simp [word, wide, w1, w2, w3]
theorem word3 (x0 x1 x2 x3 : BitVec 8) : (word x0 x1 x2 x3).setWidth 8 = x3 := by
  apply BitVec.eq_of_getLsbD_eq
  refine cases8 ?_ ?_ ?_ ?_ ?_ ?_ ?_ ?_ <;> simp [word, wide, w1, w2, w3]
theorem word_inj {x0 x1 x2 x3 y0 y1 y2 y3 : BitVec 8} (h : word x0 x1 x2 x3 = word y0 y1 y2 y3) : x0 = y0 ∧ x1 = y1 ∧ x2 = y2 ∧ x3 = y3 := by
  refine ⟨?_, ?_, ?_, ?_⟩
  · rw [← word0 x0 x1 x2 x3, h, word0]
  · rw [← word1 x0 x1 x2 x3, h, word1]
  · rw [← word2 x0 x1 x2 x3, h, word2]
  · rw [← word3 x0 x1 x2 x3, h, word3]
/-- Behind the same bytes four bytes make any sum but one way alone. -/
theorem four_inj (l : List UInt8) (x0 x1 x2 x3 y0 y1 y2 y3 : UInt8) (h : sum (l ++ [x0, x1, x2, x3]) = sum (l ++ [y0, y1, y2, y3])) : x0 = y0 ∧ x1 = y1 ∧ x2 = y2 ∧ x3 = y3 := by
  unfold sum more at h
  have h1 := not_inj h
  rw [feeds_append, feeds_append, feeds4, feeds4] at h1
  have h2 := it_inj 32 h1
  have h3 : word x0.toBitVec x1.toBitVec x2.toBitVec x3.toBitVec = word y0.toBitVec y1.toBitVec y2.toBitVec y3.toBitVec := by
    refine xor_eq_zero ?_
    generalize feeds (~~~0#32) l = s at h2
    have : (s ^^^ word x0.toBitVec x1.toBitVec x2.toBitVec x3.toBitVec) ^^^ (s ^^^ word y0.toBitVec y1.toBitVec y2.toBitVec y3.toBitVec) = 0#32 := by rw [h2, BitVec.xor_self]
    rw [← this]
    generalize word x0.toBitVec x1.toBitVec x2.toBitVec x3.toBitVec = a
    generalize word y0.toBitVec y1.toBitVec y2.toBitVec y3.toBitVec = b
    rw [show s ^^^ a ^^^ (s ^^^ b) = (s ^^^ s) ^^^ (a ^^^ b) from by ac_rfl, BitVec.xor_self, BitVec.zero_xor]
  obtain ⟨e0, e1, e2, e3⟩ := word_inj h3
  exact ⟨UInt8.toBitVec_inj.1 e0, UInt8.toBitVec_inj.1 e1, UInt8.toBitVec_inj.1 e2, UInt8.toBitVec_inj.1 e3⟩

/-! ### A text, and behind it its sum -/

def byt (c : BitVec 32) (k : Nat) : UInt8 := ⟨(c >>> k).setWidth 8⟩
theorem byt_nat (c : BitVec 32) (k : Nat) : ((byt c k).toNat : Int) = (c.toNat : Int) / (2 : Int) ^ k % 256 := by
  have h : (byt c k).toNat = c.toNat / 2 ^ k % 256 := by
    show ((c >>> k).setWidth 8).toNat = _
    rw [BitVec.toNat_setWidth, BitVec.toNat_ushiftRight, Nat.shiftRight_eq_div_pow]
  rw [h, Int.natCast_emod, Int.natCast_ediv, Int.natCast_pow]; rfl
theorem byt24 (c : BitVec 32) : U c / (16777216 : Int) % (256 : Int) = ((byt c 24).toNat : Int) := by rw [byt_nat]; unfold U; rfl
theorem byt16 (c : BitVec 32) : U c / (65536 : Int) % (256 : Int) = ((byt c 16).toNat : Int) := by rw [byt_nat]; unfold U; rfl
theorem byt8 (c : BitVec 32) : U c / (256 : Int) % (256 : Int) = ((byt c 8).toNat : Int) := by rw [byt_nat]; unfold U; rfl
theorem byt0 (c : BitVec 32) : U c % (256 : Int) = ((byt c 0).toNat : Int) := by rw [byt_nat]; unfold U; simp
def tail (c : BitVec 32) : List UInt8 := [byt c 24, byt c 16, byt c 8, byt c 0]
theorem word_byt (c : BitVec 32) : word (byt c 24).toBitVec (byt c 16).toBitVec (byt c 8).toBitVec (byt c 0).toBitVec = c := by
  have e : ∀ k, (byt c k).toBitVec = (c >>> k).setWidth 8 := fun _ => rfl
  rw [e, e, e, e]
  apply BitVec.eq_of_getLsbD_eq
  intro i hi
  have hc : i < 8 ∨ (8 ≤ i ∧ i < 16) ∨ (16 ≤ i ∧ i < 24) ∨ (24 ≤ i ∧ i < 32) := by omega
  rcases hc with h | ⟨h, h'⟩ | ⟨h, h'⟩ | ⟨h, h'⟩
  · revert i
    intro i hi h
    revert i
    intro i hi h
    have := cases8 (p := fun i => (word ((c >>> 24).setWidth 8) ((c >>> 16).setWidth 8) ((c >>> 8).setWidth 8) ((c >>> 0).setWidth 8)).getLsbD i = c.getLsbD i) (by simp [word, wide, w1, w2, w3]) (by simp [word, wide, w1, w2, w3]) (by simp [word, wide, w1, w2, w3]) (by simp [word, wide, w1, w2, w3]) (by simp [word, wide, w1, w2, w3]) (by simp [word, wide, w1, w2, w3]) (by simp [word, wide, w1, w2, w3]) (by simp [word, wide, w1, w2, w3])
    exact this i h
  · have := cases8 (p := fun j => (word ((c >>> 24).setWidth 8) ((c >>> 16).setWidth 8) ((c >>> 8).setWidth 8) ((c >>> 0).setWidth 8)).getLsbD (8 + j) = c.getLsbD (8 + j)) (by simp [word, wide, w1, w2, w3]) (by simp [word, wide, w1, w2, w3]) (by simp [word, wide, w1, w2, w3]) (by simp [word, wide, w1, w2, w3]) (by simp [word, wide, w1, w2, w3]) (by simp [word, wide, w1, w2, w3]) (by simp [word, wide, w1, w2, w3]) (by simp [word, wide, w1, w2, w3])
    have h2 := this (i - 8) (by omega)
    rwa [show 8 + (i - 8) = i from by omega] at h2
  · have := cases8 (p := fun j => (word ((c >>> 24).setWidth 8) ((c >>> 16).setWidth 8) ((c >>> 8).setWidth 8) ((c >>> 0).setWidth 8)).getLsbD (16 + j) = c.getLsbD (16 + j)) (by simp [word, wide, w1, w2, w3]) (by simp [word, wide, w1, w2, w3]) (by simp [word, wide, w1, w2, w3]) (by simp [word, wide, w1, w2, w3]) (by simp [word, wide, w1, w2, w3]) (by simp [word, wide, w1, w2, w3]) (by simp [word, wide, w1, w2, w3]) (by simp [word, wide, w1, w2, w3])
    have h2 := this (i - 16) (by omega)
    rwa [show 16 + (i - 16) = i from by omega] at h2
  · have := cases8 (p := fun j => (word ((c >>> 24).setWidth 8) ((c >>> 16).setWidth 8) ((c >>> 8).setWidth 8) ((c >>> 0).setWidth 8)).getLsbD (24 + j) = c.getLsbD (24 + j)) (by simp [word, wide, w1, w2, w3]) (by simp [word, wide, w1, w2, w3]) (by simp [word, wide, w1, w2, w3]) (by simp [word, wide, w1, w2, w3]) (by simp [word, wide, w1, w2, w3]) (by simp [word, wide, w1, w2, w3]) (by simp [word, wide, w1, w2, w3]) (by simp [word, wide, w1, w2, w3])
    have h2 := this (i - 24) (by omega)
    rwa [show 24 + (i - 24) = i from by omega] at h2
/-- What a text, and behind it its sum, has as sum. -/
def rest : BitVec 32 := ~~~ (it 32 (BitVec.allOnes 32))
theorem sum_tail (l : List UInt8) : sum (l ++ tail (sum l)) = rest := by
  have e : feeds (~~~0#32) (l ++ tail (sum l)) = it 32 (BitVec.allOnes 32) := by
    rw [feeds_append]
    unfold tail
    rw [feeds4, word_byt]
    congr 1
    unfold sum more
    generalize feeds (~~~0#32) l = s
    rw [show (~~~ s) = BitVec.allOnes 32 ^^^ s from by rw [BitVec.allOnes_xor], ← BitVec.xor_assoc, BitVec.xor_comm s, BitVec.xor_assoc, BitVec.xor_self, BitVec.xor_zero]
  unfold rest
  rw [← e]
  rfl

/-! ### Texts put together by exclusive or -/

def xor3 (a b c : List UInt8) : Nat → List UInt8
  | 0 => []
  | n + 1 => xor3 a b c n ++ [a.getD n 0 ^^^ b.getD n 0 ^^^ c.getD n 0]
theorem wide_xor (x y : BitVec 8) : wide (x ^^^ y) = wide x ^^^ wide y := by
  unfold wide
  rw [BitVec.setWidth_xor, BitVec.shiftLeft_xor_distrib]
theorem xor_cross (a b c d : BitVec 32) : a ^^^ b ^^^ (c ^^^ d) = a ^^^ c ^^^ (b ^^^ d) := by ac_rfl
theorem tk_xor (c d : BitVec 32) (x y : BitVec 8) : tk (c ^^^ d) (x ^^^ y) = tk c x ^^^ tk d y := by
  unfold tk
  rw [wide_xor, ← it_xor, xor_cross]
theorem feeds_take (c : BitVec 32) (l : List UInt8) (n : Nat) (h : n < l.length) : feeds c (l.take (n + 1)) = tk (feeds c (l.take n)) (l.getD n 0).toBitVec := by
  rw [List.take_succ_eq_append_getElem h, feeds_snoc]
  simp [List.getD, h]
theorem feeds_xor3 (s : BitVec 32) (a b c : List UInt8) : ∀ n, n ≤ a.length → n ≤ b.length → n ≤ c.length →
    feeds s (xor3 a b c n) = feeds s (a.take n) ^^^ feeds s (b.take n) ^^^ feeds s (c.take n) := by
  intro n
  induction n with
  | zero => intro _ _ _; simp [xor3, feeds]
  | succ n ih =>
    intro ha hb hc
    rw [xor3, feeds_snoc, ih (by omega) (by omega) (by omega), feeds_take _ a n (by omega), feeds_take _ b n (by omega), feeds_take _ c n (by omega), UInt8.toBitVec_xor, UInt8.toBitVec_xor, tk_xor, tk_xor]
theorem sum_xor3 (a b c : List UInt8) (n : Nat) (ha : n ≤ a.length) (hb : n ≤ b.length) (hc : n ≤ c.length) :
    sum (xor3 a b c n) = sum (a.take n) ^^^ sum (b.take n) ^^^ sum (c.take n) := by
  unfold sum more
  rw [feeds_xor3 _ a b c n ha hb hc]
  generalize feeds (~~~0#32) (a.take n) = x
  generalize feeds (~~~0#32) (b.take n) = y
  generalize feeds (~~~0#32) (c.take n) = z
  apply BitVec.eq_of_getLsbD_eq
  intro i hi
  simp [hi]
end Crc
end Go.Proofs.Ytnkgkgemjledhaa
