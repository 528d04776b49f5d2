/- Contracts of layer 5 (front), sixth part: Front and After. -/
import Derived.Test.YtlanididnlmnhaaFCalls5
namespace Go.Proofs.Ytlanididnlmnhaa
namespace Front
open Go.RowKit
open Kit (bval)
set_option linter.unusedVariables false

theorem src_nil (w : World) (p : Option Addr) (l : List Value) (h : l = []) : Kit.Src w p l := by subst h; exact Kit.Src.nil w p

/-- told, in one way. -/
theorem told_one {a s : T} {w w' : World} {e : Ending} (h : ToldPost a s w e w') :
    ∃ A n cp p m c, e = .returned (.tuple #[.agg #[.slice A n cp, .slice p m c], .int .i64 (codeF a s)]) ∧ n = (resA a s).length ∧ m = (resF a s).length ∧ Kit.Src w' A ((resA a s).map bval) ∧ Kit.Src w' p ((resF a s).map ival) ∧ Below w.heap.size w w' ∧ (p = none → c = 0) := by
  obtain ⟨hb, ⟨h1, rfl⟩ | ⟨h1, h2, rfl⟩ | ⟨h1, h2, g, cp, p, c, rfl, hby, hsrc, hpn⟩⟩ := h
  · have hc := codeF_bad a s h1
    have e1 := resA_nil a s (by rw [hc]; decide)
    have e2 := resF_nil a s (by rw [hc]; decide)
    exact ⟨none, 0, 0, none, 0, 0, by rw [hc], by rw [e1]; rfl, by rw [e2]; rfl, src_nil _ _ _ (by rw [e1]; rfl), src_nil _ _ _ (by rw [e2]; rfl), hb, fun _ => rfl⟩
  · have hc := codeF_none a s h1 h2
    have e1 := resA_nil a s (by rw [hc]; decide)
    have e2 := resF_nil a s (by rw [hc]; decide)
    exact ⟨none, 0, 0, none, 0, 0, by rw [hc], by rw [e1]; rfl, by rw [e2]; rfl, src_nil _ _ _ (by rw [e1]; rfl), src_nil _ _ _ (by rw [e2]; rfl), hb, fun _ => rfl⟩
  · have hc := codeF_ok a s h1 h2
    have e1 := resA_ok a s hc
    have e2 := resF_bad a s hc
    exact ⟨_, a.length, cp, p, s.length, c, by rw [hc], by rw [e1, fins_length s a h2], by rw [e2, plcs_length], by rw [e1]; exact hby.src, by rw [e2]; exact hsrc, hb, hpn⟩

/-- What Front answers, the program's and the document's. -/
def FrontPost (a s : T) (w : World) (e : Ending) (w' : World) : Prop :=
  ∃ p c, e = .returned (.tuple #[.slice p (resF a s).length c, .int .i64 (codeF a s)]) ∧ Kit.Src w' p ((resF a s).map ival) ∧ Below w.heap.size w w'
def AfterPost (a s : T) (w : World) (e : Ending) (w' : World) : Prop :=
  e = .returned (.tuple #[.string ⟨(resA a s).toArray⟩, .int .i64 (codeF a s)]) ∧ Below w.heap.size w w'

set_option maxRecDepth 100000 in
set_option maxHeartbeats 1000000 in
theorem front_anyN (a s : ByteArray) (ha : a.size ≤ 1000) (hs : s.size ≤ 1000) (w : World) :
    Calls Try.prog 15 #[.string a, .string s] w (fun e w' => ∃ p c, e = .returned (.tuple #[.slice p (resF a.data.toList s.data.toList).length c, .int .i64 (codeF a.data.toList s.data.toList)]) ∧ Kit.Src w' p ((resF a.data.toList s.data.toList).map ival) ∧ Below w.heap.size w w' ∧ (p = none → c = 0)) := by
  go_enter Try.func15, Try.ntmps15
  go_wp2_with fail
  refine (told_any a s ha hs w).mono ?_
  intro e w1 h
  obtain ⟨A, n, cp, p, m, c, rfl, hn, hm, h1, h2, hb, hpn⟩ := told_one h
  have H2 := Lib.hid h2
  have HM := Lib.hid hm
  have HPN := Lib.hid hpn
  clear h h1 h2 hn hm hpn
  have hlt := hb.size
  go_wp2
  go_ret2
  exact ⟨p, c, by rw [← HM.out]; rfl, H2.out.below ((Below.refl _ _).alloc (Nat.le_refl _) _), hb.alloc hlt _, HPN.out⟩
theorem front_any (a s : ByteArray) (ha : a.size ≤ 1000) (hs : s.size ≤ 1000) (w : World) :
    Calls Try.prog 15 #[.string a, .string s] w (FrontPost a.data.toList s.data.toList w) := by
  refine (front_anyN a s ha hs w).mono ?_
  rintro e w' ⟨p, c, h1, h2, h3, _⟩
  exact ⟨p, c, h1, h2, h3⟩
set_option maxRecDepth 100000 in
set_option maxHeartbeats 1000000 in
theorem after_any (a s : ByteArray) (ha : a.size ≤ 1000) (hs : s.size ≤ 1000) (w : World) :
    Calls Try.prog 17 #[.string a, .string s] w (AfterPost a.data.toList s.data.toList w) := by
  go_enter Try.func17, Try.ntmps17
  go_wp2_with fail
  refine (told_any a s ha hs w).mono ?_
  intro e w1 h
  obtain ⟨A, n, cp, p, m, c, rfl, hn, hm, h1, h2, hb, hpn⟩ := told_one h
  have hlt := hb.size
  have h1b := h1.below ((Below.refl w1.heap.size w1).alloc (Nat.le_refl _) (.cells #[.slice A n cp, .slice p m c] 47))
  have hcv := Kit.Src.text (P := Try.prog) (src := 40) (dst := 9) (e := 5) (c := cp) h1b hn.symm Try.underlying40 Try.underlying5 Try.underlying9
  clear h h1 h2 hm h1b hpn
  have HN := Lib.hid hn
  clear hn
  go_wp2
  go_ret2
  exact ⟨rfl, hb.alloc hlt _⟩
end Front
end Go.Proofs.Ytlanididnlmnhaa
