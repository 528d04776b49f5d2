/- A sorter's sort; Order (chapter 21). -/
import Derived.Test.YtpkhafijmbgcnaaCSort2
namespace Go.Proofs.Ytpkhafijmbgcnaa
namespace Cache
open Go.RowKit Go.Shelf
set_option linter.unusedVariables false

theorem results_cellv {fn : Func} {p : Tmp} {ty : TypeId} (h : fn.results = #[.cell p ty]) (tmps : Array Value) (P : Program) (w : World) (a : Addr) (v : Value) (hp : tmps.getD p undef = .pointer (some a)) (hl : (loadVar ty a).run P w = .ok v w) :
    (results fn tmps).run P w = .ok v w := by
  have hp' : tmps[p]?.getD undef = .pointer (some a) := by simpa using hp
  simp [results, h, hp', asAddr, hl]
theorem load_so (w : World) (r : Nat) (x : Value) (h0 : w.cell? ⟨r, 0, none⟩ = some x) : (loadVar TSo ⟨r, 0, none⟩).run Try.prog w = .ok (.agg #[x]) w := by
  simp [loadVar, go_sem, h0]
theorem load_sh (w : World) (r : Nat) (x y z : Value) (h0 : w.cell? ⟨r, 0, none⟩ = some x) (h1 : w.cell? ⟨r, 1, none⟩ = some y) (h2 : w.cell? ⟨r, 2, none⟩ = some z) : (loadVar TS ⟨r, 0, none⟩).run Try.prog w = .ok (.agg #[x, y, z]) w := by
  simp [loadVar, go_sem, h0, h1, h2]
theorem run_store_fn (w : World) (p : Nat) : (store ⟨w.heap.size, 0, none⟩ (.func (.func p) #[] #[])).run Try.prog (w.alloc (.cells #[.nilFunc] TSo)) = .ok () ((w.alloc (.cells #[.nilFunc] TSo)).setCell ⟨w.heap.size, 0, none⟩ (.func (.func p) #[] #[])) := by
  rw [run_store _ _ _ _ _ rfl]
  simp
def soval (p : Nat) : Value := .agg #[.func (.func p) #[] #[]]
set_option maxRecDepth 100000 in
set_option maxHeartbeats 1000000 in
theorem byUse_any (w : World) : Calls Try.prog 25 #[] w fun e w' => e = .returned (soval 31) ∧ Below w.heap.size w w' := by
  have hst := run_store_fn w 31
  go_enter Try.func25, Try.ntmps25
  go_wp2
  refine bodyPost_ret (v := soval 31) ?_ rfl ?_
  · exact results_cellv rfl _ _ _ ⟨w.heap.size, 0, none⟩ _ rfl (load_so _ _ _ (by simp))
  · exact ⟨rfl, (Below.refl _ _).alloc (Nat.le_refl _) _⟩
set_option maxRecDepth 100000 in
set_option maxHeartbeats 1000000 in
theorem byBlock_any (w : World) : Calls Try.prog 36 #[] w fun e w' => e = .returned (soval 42) ∧ Below w.heap.size w w' := by
  have hst := run_store_fn w 42
  go_enter Try.func36, Try.ntmps36
  go_wp2
  refine bodyPost_ret (v := soval 42) ?_ rfl ?_
  · exact results_cellv rfl _ _ _ ⟨w.heap.size, 0, none⟩ _ rfl (load_so _ _ _ (by simp))
  · exact ⟨rfl, (Below.refl _ _).alloc (Nat.le_refl _) _⟩

set_option maxRecDepth 100000 in
set_option maxHeartbeats 1000000 in
theorem sortedFunc_any (p : Nat) (key : Hd → Int) (K : Key p key) (Bs : Nat) (g : Nat) (lb : Array Value) (S : List Hd → Prop) (N : Nat) (hN : N ≤ 1000) (hS : ∀ l, S l → l.length ≤ 1000) (w : World) (hBs : Bs < w.heap.size) (hc : w.cell? ⟨Bs, 0, none⟩ = some (.func (.func p) #[] #[])) (eg : ∀ args w, (callFunc g args).run Try.prog w = .ok (.enter g args) w)
    (hseq : SeqStopsK Fence.wide 2 Try.prog g lb (fun x : Hd => #[hval x]) (KpW w.heap.size) S (fun _ => True) N w) :
    Calls Try.prog 32 #[.func (.func g) #[] lb, .func (.func 34) #[] #[.pointer (some ⟨Bs, 0, none⟩)]] w fun e w' =>
      ∃ a n c l l', e = .returned (.slice a n c) ∧ S l ∧ l'.Perm l ∧ (l'.Pairwise fun x y => key x ≤ key y) ∧ OwnH w' w.heap.size a n c l' ∧ Below w.heap.size w w' := by
  have H := Lib.hid (collect_any g lb S N hN w eg hseq)
  have HC := Lib.hid hc
  have HS := Lib.hid hS
  clear eg hseq hc hS
  go_enter Try.func32, Try.ntmps32
  go_wp2_with fail
  refine H.out.mono ?_
  rintro e w1 ⟨a, n, c, l, rfl, h1, h2, h3⟩
  have hn : n ≤ 100000 := by have := HS.out l h1; have := h2.len; omega
  have hs := sort_any p key K Bs w.heap.size a n c l w1 hn h3.size hBs h2 (by rw [h3.cell (p := ⟨Bs, 0, none⟩) hBs]; exact HC.out)
  have HSO := Lib.hid hs
  have H1 := Lib.hid h1
  have H3 := Lib.hid h3
  clear h1 h2 h3 hs
  go_wp2_with fail
  refine HSO.out.mono ?_
  rintro e w2 ⟨rfl, l', p1, p2, p3, p4⟩
  have P1 := Lib.hid p1
  have P2 := Lib.hid p2
  have P3 := Lib.hid p3
  have P4 := Lib.hid p4
  clear p1 p2 p3 p4
  go_wp2
  go_ret
  exact ⟨a, n, c, l, l', rfl, H1.out, P1.out, P2.out, P3.out, H3.out.trans P4.out⟩

set_option maxRecDepth 100000 in
set_option maxHeartbeats 1000000 in
theorem sorterSort_any (p : Nat) (key : Hd → Int) (K : Key p key) (a : Option Addr) (m cap : Nat) (l : List Hd) (hl : l.length = m) (hm : m ≤ 1000) (w : World) (hs : HSrc w a l) :
    Calls Try.prog 26 #[soval p, .slice a m cap] w fun e w' =>
      ∃ a' n c l', e = .returned (.slice a' n c) ∧ l'.Perm l ∧ (l'.Pairwise fun x y => key x ≤ key y) ∧ OwnH w' w.heap.size a' n c l' ∧ Below w.heap.size w w' := by
  obtain ⟨W, hW⟩ : ∃ W, (w.alloc (.cells #[.func (.func p) #[] #[]] TSo)).alloc (.cells #[.slice a m cap] 23) = W := ⟨_, rfl⟩
  have hsz : W.heap.size = w.heap.size + 2 := by rw [← hW, size_alloc', size_alloc']
  have hbW : Below w.heap.size w W := by rw [← hW]; exact ((Below.refl _ w).alloc (Nat.le_refl _) _).alloc (by rw [size_alloc']; omega) _
  have hc0 : W.cell? ⟨w.heap.size, 0, none⟩ = some (.func (.func p) #[] #[]) := by
    rw [← hW, ((Below.refl (w.heap.size + 1) (w.alloc (.cells #[.func (.func p) #[] #[]] TSo))).alloc (by rw [size_alloc']; omega) (.cells #[.slice a m cap] 23)).cell (p := ⟨w.heap.size, 0, none⟩) (by simp)]
    simp
  have hc1 : W.cell? ⟨w.heap.size + 1, 0, none⟩ = some (.slice a m cap) := by rw [← hW]; simp
  have hlt : ∀ b off, a = some ⟨b, off, none⟩ → 0 < m → b < W.heap.size := by
    intro b off ha hm0
    obtain ⟨b', off', ha', hb', _⟩ := hs.at_ 0 (by omega)
    rw [ha] at ha'
    injection ha' with ha'
    injection ha' with ha' _
    omega
  have hseq := values_seq 2 W.heap.size (w.heap.size + 1) (by omega) a m cap l hl (by omega) W (hs.below hbW rfl) (Nat.le_refl _) hlt (by omega) hc1
  have H := Lib.hid (sortedFunc_any p key K w.heap.size _ _ _ m hm (fun l' h => by rw [h]; omega) W (by omega) hc0 (enters_of Try.func40 (by kernel_rfl) rfl) hseq)
  have HW := Lib.hid hW
  have HB := Lib.hid hbW
  have HSZ := Lib.hid hsz
  clear hseq hlt hc0 hc1 hbW hsz hW hs hl K
  unfold soval
  go_enter Try.func26, Try.ntmps26
  go_wp2_with fail
  refine (values_any _ _ _ _).mono ?_
  rintro e w1 ⟨rfl, rfl⟩
  go_wp2_with fail
  rw [show (w.alloc (.cells #[.func (.func p) #[] #[]] TSo)).alloc (.cells #[.slice a m cap] 23) = W from HW.out]
  refine H.out.mono ?_
  rintro e w2 ⟨a', n, c, l1, l', rfl, rfl, p1, p2, p3, p4⟩
  have P1 := Lib.hid p1
  have P2 := Lib.hid p2
  have P3 := Lib.hid p3
  have P4 := Lib.hid p4
  clear p1 p2 p3 p4
  go_wp2
  go_ret
  exact ⟨a', n, c, l', rfl, P1.out, P2.out, P3.out.base (by have := HSZ.out; omega), HB.out.trans (P4.out.mono (by have := HSZ.out; omega))⟩
end Cache
end Go.Proofs.Ytpkhafijmbgcnaa
