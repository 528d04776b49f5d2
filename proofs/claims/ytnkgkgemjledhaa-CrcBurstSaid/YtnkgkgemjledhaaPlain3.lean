/- The plain law behind the burst theorem of layer 3: texts that are unlike in some of at most 32 bits that stand side by side have unlike sums; no program in sight. -/
import Derived.Test.YtnkgkgemjledhaaPlain2
namespace Go.Proofs.Ytnkgkgemjledhaa
namespace Crc

/-- A text's bits. -/
def bitAt (l : List UInt8) (p : Nat) : Bool := (l.getD (p / 8) 0).toBitVec.getLsbD (7 - p % 8)
/-- Bits, taken up. -/
def fb (f : Nat → Bool) : Nat → BitVec 32 → BitVec 32
  | 0, c => c
  | n + 1, c => up (fb f n c) (f n)

theorem feed_fb (l : List UInt8) (n : Nat) (h : n < l.length) (c : BitVec 32) : ∀ j, j ≤ 8 → feed l[n].toBitVec j (fb (bitAt l) (8 * n) c) = fb (bitAt l) (8 * n + j) c := by
  intro j
  induction j with
  | zero => intro _; rfl
  | succ j ih =>
    intro hj
    rw [feed, ih (by omega), ← Nat.add_assoc, fb]
    congr 1
    unfold bitAt
    rw [show (8 * n + j) / 8 = n from by omega, show (8 * n + j) % 8 = j from by omega]
    simp [List.getD, h]
theorem feeds_fb (l : List UInt8) (c : BitVec 32) : ∀ n, n ≤ l.length → feeds c (l.take n) = fb (bitAt l) (8 * n) c := by
  intro n
  induction n with
  | zero => intro _; simp [feeds, fb]
  | succ n ih =>
    intro hn
    have h : n < l.length := by omega
    rw [List.take_succ_eq_append_getElem h, feeds_snoc, ← feed_tk, ih (by omega), feed_fb l n h c 8 (by omega)]
    rfl
theorem bit_xor (a b : Bool) : bit a ^^^ bit b = bit (a ^^ b) := by cases a <;> cases b <;> decide
theorem up_xor (c d : BitVec 32) (a b : Bool) : up c a ^^^ up d b = up (c ^^^ d) (a ^^ b) := by
  unfold up
  rw [← st_xor, ← bit_xor, xor_cross]
theorem fb_xor (f g : Nat → Bool) (n : Nat) (c d : BitVec 32) : fb f n c ^^^ fb g n d = fb (fun i => f i ^^ g i) n (c ^^^ d) := by
  induction n with
  | zero => rfl
  | succ n ih => rw [fb, fb, fb, up_xor, ih]
theorem fb_congr (f g : Nat → Bool) (c : BitVec 32) : ∀ n, (∀ i, i < n → f i = g i) → fb f n c = fb g n c := by
  intro n
  induction n with
  | zero => intro _; rfl
  | succ n ih => intro h; rw [fb, fb, ih fun i hi => h i (by omega), h n (by omega)]
theorem fb_before (f : Nat → Bool) : ∀ k, (∀ i, i < k → f i = false) → fb f k 0#32 = 0#32 := by
  intro k
  induction k with
  | zero => intro _; rfl
  | succ k ih =>
    intro h
    rw [fb, ih fun i hi => h i (by omega), h k (by omega)]
    decide
theorem fb_behind (f : Nat → Bool) (n : Nat) (c : BitVec 32) : ∀ r, (∀ i, n ≤ i → i < n + r → f i = false) → fb f (n + r) c = it r (fb f n c) := by
  intro r
  induction r with
  | zero => intro _; rfl
  | succ r ih =>
    intro h
    rw [← Nat.add_assoc, fb, ih fun i h1 h2 => h i h1 (by omega), h (n + r) (by omega) (by omega), it]
    unfold up bit
    simp

/-- At most 32 bits as one number. -/
def acc (f : Nat → Bool) (k : Nat) : Nat → BitVec 32
  | 0 => 0#32
  | m + 1 => acc f k m ^^^ (if f (k + m) then 1#32 <<< (31 - m) else 0#32)
theorem one_shl (j : Nat) (h : j < 32) : (1#32 <<< j).toNat = 2 ^ j := by
  rw [BitVec.toNat_shiftLeft, Nat.shiftLeft_eq]
  rw [Nat.mod_eq_of_lt]
  · simp
  · have : (2 : Nat) ^ j < 2 ^ 32 := Nat.pow_lt_pow_right (by omega) h
    simpa using this
theorem it_one (m : Nat) (h : m ≤ 31) : it m (1#32 <<< (31 - m)) = top := by
  rw [it_low m]
  · rw [← BitVec.shiftLeft_add, show 31 - m + m = 31 from by omega]; decide
  · rw [one_shl _ (by omega), ← Nat.pow_add, show 31 - m + m = 31 from by omega]; decide
theorem it_bit (m : Nat) (h : m ≤ 31) (b : Bool) : bit b = it m (if b then 1#32 <<< (31 - m) else 0#32) := by
  cases b
  · simp [bit, it_zero]
  · simp only [bit, if_true]; rw [it_one m h]
theorem fb_acc (f : Nat → Bool) (k : Nat) (hf : ∀ i, i < k → f i = false) : ∀ m, m ≤ 32 → fb f (k + m) 0#32 = it m (acc f k m) := by
  intro m
  induction m with
  | zero => intro _; rw [Nat.add_zero, fb_before f k hf]; rfl
  | succ m ih =>
    intro hm
    rw [← Nat.add_assoc, fb, ih (by omega), up, it_bit m (by omega), ← it_xor, acc, it]
theorem acc_bit (f : Nat → Bool) (k : Nat) : ∀ m, m ≤ 32 → ∀ j, j < m → (acc f k m).getLsbD (31 - j) = f (k + j) := by
  have far : ∀ m, m ≤ 32 → ∀ j, m ≤ j → j ≤ 31 → (acc f k m).getLsbD (31 - j) = false := by
    intro m
    induction m with
    | zero => intro _ j _ _; simp [acc]
    | succ m ih =>
      intro hm j h1 h2
      rw [acc, BitVec.getLsbD_xor, ih (by omega) j (by omega) h2]
      split
      · simp [BitVec.getLsbD_shiftLeft]; omega
      · simp
  intro m
  induction m with
  | zero => intro _ j h; omega
  | succ m ih =>
    intro hm j hj
    rw [acc, BitVec.getLsbD_xor]
    by_cases h : j = m
    · subst h
      rw [far j (by omega) j (Nat.le_refl _) (by omega)]
      cases hf : f (k + j)
      · simp
      · simp
        omega
    · rw [ih (by omega) j (by omega)]
      cases hf : f (k + m)
      · simp
      · have h1 : ∀ i : Fin 32, ¬ i.val = 0 → (1#32).getLsbD i.val = false := by decide
        have h2 := h1 ⟨31 - j - (31 - m), by omega⟩ (by show ¬ 31 - j - (31 - m) = 0; omega)
        simp only at h2
        simp only [if_true]
        rw [BitVec.getLsbD_shiftLeft, h2]
        simp

/-- The bits of T, turned in a text from place k on: the first m of them. -/
def turnB (t : List UInt8) (k : Nat) (T : BitVec 32) : Nat → List UInt8
  | 0 => t
  | m + 1 => if T.getLsbD m then (turnB t k T m).set ((k + m) / 8) ((turnB t k T m).getD ((k + m) / 8) 0 ^^^ ⟨128#8 >>> ((k + m) % 8)⟩) else turnB t k T m
def someB (T : BitVec 32) : Nat → Bool
  | 0 => false
  | m + 1 => T.getLsbD m || someB T m
theorem turnB_length (t : List UInt8) (k : Nat) (T : BitVec 32) (m : Nat) : (turnB t k T m).length = t.length := by
  induction m with
  | zero => rfl
  | succ m ih => rw [turnB]; split <;> simp [ih]
theorem bit128 (r i : Nat) (hr : r < 8) (hi : i < 8) : (128#8 >>> r).getLsbD (7 - i) = decide (i = r) := by
  have : ∀ r i : Fin 8, (128#8 >>> r.val).getLsbD (7 - i.val) = decide (i.val = r.val) := by decide
  exact this ⟨r, hr⟩ ⟨i, hi⟩
theorem turnB_bit (t : List UInt8) (k : Nat) (T : BitVec 32) : ∀ m, k + m ≤ 8 * t.length → ∀ j, j < 8 * t.length →
    bitAt (turnB t k T m) j = (bitAt t j ^^ (decide (k ≤ j) && decide (j < k + m) && T.getLsbD (j - k))) := by
  intro m
  induction m with
  | zero =>
    intro _ j _
    rw [turnB]
    have : (decide (k ≤ j) && decide (j < k + 0) && T.getLsbD (j - k)) = false := by
      by_cases h : k ≤ j
      · rw [decide_eq_false (show ¬ j < k + 0 from by omega)]; simp
      · rw [decide_eq_false h]; simp
    rw [this]; simp
  | succ m ih =>
    intro hm j hj
    have ih := ih (by omega) j hj
    rw [turnB]
    by_cases hT : T.getLsbD m = true
    · rw [if_pos hT]
      have hq : (k + m) / 8 < (turnB t k T m).length := by rw [turnB_length]; omega
      by_cases hjk : j = k + m
      · subst hjk
        have e1 : bitAt ((turnB t k T m).set ((k + m) / 8) ((turnB t k T m).getD ((k + m) / 8) 0 ^^^ ⟨128#8 >>> ((k + m) % 8)⟩)) (k + m) = !bitAt (turnB t k T m) (k + m) := by
          unfold bitAt
          rw [List.getD, List.getElem?_set_self hq, Option.getD_some, UInt8.toBitVec_xor, BitVec.getLsbD_xor]
          rw [show (⟨128#8 >>> ((k + m) % 8)⟩ : UInt8).toBitVec = 128#8 >>> ((k + m) % 8) from rfl, bit128 _ _ (by omega) (by omega)]
          simp
        rw [e1, ih]
        have h1 : decide (k + m < k + m) = false := by simp
        have h2 : decide (k + m < k + (m + 1)) = true := by simp
        have h3 : decide (k ≤ k + m) = true := by simp
        rw [h1, h2, h3, show k + m - k = m from by omega, hT]
        simp
      · have e1 : bitAt ((turnB t k T m).set ((k + m) / 8) ((turnB t k T m).getD ((k + m) / 8) 0 ^^^ ⟨128#8 >>> ((k + m) % 8)⟩)) j = bitAt (turnB t k T m) j := by
          unfold bitAt
          by_cases h8 : j / 8 = (k + m) / 8
          · rw [h8, List.getD, List.getElem?_set_self hq, Option.getD_some, UInt8.toBitVec_xor, BitVec.getLsbD_xor]
            rw [show (⟨128#8 >>> ((k + m) % 8)⟩ : UInt8).toBitVec = 128#8 >>> ((k + m) % 8) from rfl, bit128 _ _ (by omega) (by omega)]
            have : ¬ j % 8 = (k + m) % 8 := by omega
            simp [this, List.getD]
          · rw [List.getD, List.getElem?_set_ne (by omega)]; rfl
        rw [e1, ih]
        have : decide (j < k + (m + 1)) = decide (j < k + m) := by
          by_cases h : j < k + m
          · rw [decide_eq_true h, decide_eq_true (by omega)]
          · rw [decide_eq_false h, decide_eq_false (by omega)]
        rw [this]
    · rw [if_neg hT, ih]
      congr 1
      by_cases hjk : j = k + m
      · subst hjk
        have h1 : T.getLsbD (k + m - k) = false := by rw [show k + m - k = m from by omega]; simpa using hT
        rw [h1]; simp
      · have : decide (j < k + (m + 1)) = decide (j < k + m) := by
          by_cases h : j < k + m
          · rw [decide_eq_true h, decide_eq_true (by omega)]
          · rw [decide_eq_false h, decide_eq_false (by omega)]
        rw [this]
theorem someB_false (T : BitVec 32) : ∀ m, someB T m = false ↔ ∀ j, j < m → T.getLsbD j = false := by
  intro m
  induction m with
  | zero => simp [someB]
  | succ m ih =>
    rw [someB, Bool.or_eq_false_iff, ih]
    constructor
    · rintro ⟨h1, h2⟩ j hj
      by_cases h : j = m
      · rw [h]; exact h1
      · exact h2 j (by omega)
    · intro h
      exact ⟨h m (by omega), fun j hj => h j (by omega)⟩
theorem turnB_same (t : List UInt8) (k : Nat) (T : BitVec 32) : ∀ m, someB T m = false → turnB t k T m = t := by
  intro m
  induction m with
  | zero => intro _; rfl
  | succ m ih =>
    intro h
    rw [someB, Bool.or_eq_false_iff] at h
    rw [turnB, h.1, ih h.2]; rfl

/-- THE BURST. -/
theorem burst (t : List UInt8) (k : Nat) (T : BitVec 32) (m : Nat) (hm : m ≤ 32) (hk : k + m ≤ 8 * t.length) : (sum t == sum (turnB t k T m)) = !someB T m := by
  by_cases hs : someB T m = false
  · rw [turnB_same t k T m hs, hs]; simp
  · have hs' : someB T m = true := by simpa using hs
    rw [hs']
    have hne : ¬ sum t = sum (turnB t k T m) := by
      intro h
      apply hs
      rw [someB_false]
      unfold sum more at h
      have h1 := not_inj h
      have e1 := feeds_fb t (~~~0#32) t.length (Nat.le_refl _)
      have e2 := feeds_fb (turnB t k T m) (~~~0#32) (turnB t k T m).length (Nat.le_refl _)
      rw [List.take_length] at e1 e2
      rw [turnB_length] at e2
      rw [e1, e2] at h1
      have h2 : fb (fun i => bitAt t i ^^ bitAt (turnB t k T m) i) (8 * t.length) 0#32 = 0#32 := by
        have := fb_xor (bitAt t) (bitAt (turnB t k T m)) (8 * t.length) (~~~0#32) (~~~0#32)
        rw [h1, BitVec.xor_self, BitVec.xor_self] at this
        exact this.symm
      have h3 : fb (fun j => decide (k ≤ j) && decide (j < k + m) && T.getLsbD (j - k)) (8 * t.length) 0#32 = 0#32 := by
        refine Eq.trans ?_ h2
        refine fb_congr _ _ _ _ fun i hi => ?_
        rw [turnB_bit t k T m hk i hi]
        generalize bitAt t i = x
        generalize (decide (k ≤ i) && decide (i < k + m) && T.getLsbD (i - k)) = y
        cases x <;> cases y <;> rfl
      obtain ⟨r, hr⟩ : ∃ r, 8 * t.length = k + m + r := ⟨8 * t.length - (k + m), by omega⟩
      rw [hr, fb_behind _ (k + m) _ r (fun i h1 h2 => by
        have : decide (i < k + m) = false := by simp; omega
        simp [this])] at h3
      have h4 := it_inj r (h3.trans (it_zero r).symm)
      rw [fb_acc _ k (fun i hi => by
        have : decide (k ≤ i) = false := by simp; omega
        simp [this]) m hm] at h4
      have h5 := it_inj m (h4.trans (it_zero m).symm)
      intro j hj
      have h6 := acc_bit (fun j => decide (k ≤ j) && decide (j < k + m) && T.getLsbD (j - k)) k m hm j hj
      rw [h5] at h6
      have h7 : decide (k ≤ k + j) = true := by simp
      have h8 : decide (k + j < k + m) = true := by simp; omega
      simp only [h7, h8, Bool.true_and, show k + j - k = j from by omega] at h6
      rw [← h6]; simp
    simpa using hne
end Crc
end Go.Proofs.Ytnkgkgemjledhaa
