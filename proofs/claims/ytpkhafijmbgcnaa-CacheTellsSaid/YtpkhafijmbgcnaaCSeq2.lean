/- Collect, Values; what says by what one stands (chapter 21). -/
import Derived.Test.YtpkhafijmbgcnaaCSeq
namespace Go.Proofs.Ytpkhafijmbgcnaa
namespace Cache
open Go.RowKit Go.Shelf
set_option linter.unusedVariables false

set_option maxRecDepth 100000 in
set_option maxHeartbeats 1000000 in
theorem collect_any (g : Nat) (lb : Array Value) (S : List Hd → Prop) (N : Nat) (hN : N ≤ 1000) (w : World) (eg : ∀ args w, (callFunc g args).run Try.prog w = .ok (.enter g args) w)
    (hseq : SeqStopsK Fence.wide 2 Try.prog g lb (fun x : Hd => #[hval x]) (KpW w.heap.size) S (fun _ => True) N w) :
    Calls Try.prog 37 #[.func (.func g) #[] lb] w fun e w' => ∃ a n c l, e = .returned (.slice a n c) ∧ S l ∧ OwnH w' w.heap.size a n c l ∧ Below w.heap.size w w' := by
  have H := Lib.hid (appendSeq_any g lb S N hN w eg hseq)
  clear eg hseq
  go_enter Try.func37, Try.ntmps37
  go_wp2_with fail
  refine H.out.mono ?_
  rintro e w1 ⟨a, n, c, l, rfl, h1, h2, h3⟩
  have H1 := Lib.hid h1
  have H2 := Lib.hid h2
  have H3 := Lib.hid h3
  clear h1 h2 h3
  go_wp2
  go_ret
  exact ⟨a, n, c, l, rfl, H1.out, H2.out, H3.out⟩
set_option maxRecDepth 100000 in
set_option maxHeartbeats 1000000 in
theorem values_any (a : Option Addr) (n c : Nat) (w : World) :
    Calls Try.prog 33 #[.slice a n c] w fun e w' => e = .returned (.func (.func 40) #[] #[.pointer (some ⟨w.heap.size, 0, none⟩)]) ∧ w' = w.alloc (.cells #[.slice a n c] 23) := by
  go_enter Try.func33, Try.ntmps33
  go_wp2
  go_ret
  exact ⟨rfl, rfl⟩
set_option maxRecDepth 100000 in
set_option maxHeartbeats 1000000 in
theorem mvalues_any (b : Option Nat) (w : World) :
    Calls Try.prog 38 #[.map b] w fun e w' => e = .returned (.func (.func 44) #[] #[.pointer (some ⟨w.heap.size, 0, none⟩)]) ∧ w' = w.alloc (.cells #[.map b] TD) := by
  go_enter Try.func38, Try.ntmps38
  go_wp2
  go_ret
  exact ⟨rfl, rfl⟩

abbrev TSo : TypeId := 57
set_option maxRecDepth 100000 in
set_option maxHeartbeats 1000000 in
theorem byUse1_any (x : Hd) (w : World) :
    Calls Try.prog 31 #[hval x] w fun e w' => e = .returned (.int .i64 (wrap64 (-x.st))) ∧ w' = w.alloc (hobj x) := by
  obtain ⟨xb, xs, xt⟩ := x
  unfold hval hobj
  simp only
  go_enter Try.func31, Try.ntmps31
  go_wp2
  go_ret
  exact ⟨rfl, rfl⟩
set_option maxRecDepth 100000 in
set_option maxHeartbeats 1000000 in
theorem byBlock1_any (x : Hd) (w : World) :
    Calls Try.prog 42 #[hval x] w fun e w' => e = .returned (.int .i64 x.blk) ∧ w' = w.alloc (hobj x) := by
  obtain ⟨xb, xs, xt⟩ := x
  unfold hval hobj
  simp only
  go_enter Try.func42, Try.ntmps42
  go_wp2
  go_ret
  exact ⟨rfl, rfl⟩
end Cache
end Go.Proofs.Ytpkhafijmbgcnaa
