/- Going through a slice of what is held, through a desk; and what is collected (chapter 21). -/
import Derived.Test.YtpkhafijmbgcnaaCOf
import Derived.RangeFuncNested
import Derived.RangeFuncBound
import Derived.RangeFuncCalls
import Derived.RangeFuncLeaves
import Derived.RangeFuncBox
import Derived.Shelf.Abstract
import Derived.OwnWalkIn
import Derived.TacticsInMore
import Derived.LoopNIn
import Derived.LoopIn
import Derived.Sort.MapsRangeIn
namespace Go.Proofs.Ytpkhafijmbgcnaa
namespace Cache
open Go.RowKit Go.Shelf
set_option linter.unusedVariables false
attribute [local go_sem] Oper.semAt_some

/-! ### a box of one -/
abbrev hobj (x : Hd) : Obj := .cells #[.int .i64 x.blk, .int .i64 x.st, .string x.txt] TH
def HBox (W : World) (B : Nat) (x : Hd) : Prop := W.heap[B]? = some (hobj x)
theorem HBox.new (W : World) (x : Hd) : HBox (W.alloc (hobj x)) W.heap.size x := World.alloc_heap_new W _
theorem HBox.own (B B0 : Nat) (x : Hd) : OwnFrom B0 (fun (_ : Unit) W => HBox W B x) := fun s X Y row hs hg hrow => by
  refine (hg.block B (Array.getElem?_eq_some_iff.1 hs).1 (fun e => ?_)).trans hs
  obtain ⟨_, o, ho, hc⟩ := hrow B e.symm
  rw [show X.heap[B]? = _ from hs] at ho
  cases ho; cases hc
theorem HBox.alloc {W : World} {B : Nat} {x : Hd} (h : HBox W B x) (o : Obj) : HBox (W.alloc o) B x := (Below.heap_alloc W o B (Array.getElem?_eq_some_iff.1 h).1).trans h
theorem HBox.at_ {W : World} {B : Nat} {x : Hd} (h : HBox W B x) : W.cell? ⟨B, 0, none⟩ = some (.int .i64 x.blk) ∧ W.cell? ⟨B, 1, none⟩ = some (.int .i64 x.st) ∧ W.cell? ⟨B, 2, none⟩ = some (.string x.txt) := by
  refine ⟨?_, ?_, ?_⟩ <;> simp [World.cell?, show W.heap[B]? = _ from h]
theorem HBox.lt {W : World} {B : Nat} {x : Hd} (h : HBox W B x) : B < W.heap.size := (Array.getElem?_eq_some_iff.1 h).1
theorem HBox.src {W : World} {B : Nat} {x : Hd} (h : HBox W B x) : HSrc W (some ⟨B, 0, none⟩) [x] := by
  intro j y hy
  match j, hy with
  | 0, hy =>
    simp at hy; subst hy
    obtain ⟨h0, h1, h2⟩ := h.at_
    exact ⟨B, 0, rfl, h0, h1, h2⟩

/-- What a round keeps. -/
def KpW (n₀ : Nat) (W W' : World) : Prop := Below n₀ W W' ∧ KeepsWalks W W'

set_option maxRecDepth 100000 in
set_option maxHeartbeats 2000000 in
/-- Going through a slice. -/
theorem values_seq (n n₀ Bs : Nat) (hn : 1 ≤ n) (a : Option Addr) (m cap : Nat) (l : List Hd) (hm : l.length = m) (hm1 : m ≤ 100000) (w : World) (hsrc : HSrc w a l) (hn₀ : n₀ ≤ w.heap.size) (hlt : ∀ b off, a = some ⟨b, off, none⟩ → 0 < m → b < n₀) (hBs : Bs < w.heap.size)
    (hbox : w.cell? ⟨Bs, 0, none⟩ = some (.slice a m cap)) :
    SeqStopsK Fence.wide n Try.prog 40 #[.pointer (some ⟨Bs, 0, none⟩)] (fun x : Hd => #[hval x]) (KpW n₀) (fun ys => ys = l) (fun _ => True) m w := by
  intro lp J Jx W hW hJ hJx hY h0
  refine callsIn_of_wp Try.func40 rfl trivial ?_ rfl
  simp only [Try.ntmps40, List.size_toArray, List.length_cons, List.length_nil, Nat.reduceAdd, Nat.reduceSub, Array.replicate_succ, Array.replicate_zero, List.push_toArray, List.append_toArray, List.nil_append, List.cons_append]
  have hbx : W.cell? ⟨Bs, 0, none⟩ = some (.slice a m cap) := by rw [hW.cell (p := ⟨Bs, 0, none⟩) hBs]; exact hbox
  have hs2 : HSrc W a l := hsrc.below hW rfl
  have hn2 : n₀ ≤ W.heap.size := by have := hW.size; omega
  have HS := Lib.hid hs2
  have HJ := Lib.hid hJ
  have HY := Lib.hid hY
  have H0 := Lib.hid h0
  have HM := Lib.hid hm
  have HLT := Lib.hid hlt
  clear hs2 hJ hY h0 hsrc hJx hW hbox hlt hm
  gi_wp2
  gi_loopw [7] (fun i wr => ∃ k : Nat, k ≤ m ∧ i = .int .i64 k ∧ RowKit.Hid (J (l.take k) wr) ∧ RowKit.Hid (Below n₀ W wr) ∧ W.heap.size ≤ wr.heap.size) (fun i _ => m - (intOf i).toNat)
  case atStart => exact ⟨0, by omega, rfl, H0, Lib.hid (Below.refl _ _), Nat.le_refl _⟩
  case round =>
    obtain ⟨k, hk, rfl, hJs, hb, hz⟩ := hrel
    by_cases hkm : k < m
    · have hkl : k < l.length := by rw [HM.out]; exact hkm
      obtain ⟨x, hx⟩ : ∃ x, l[k] = x := ⟨_, rfl⟩
      obtain ⟨b, off, ha, c0, c1, c2⟩ := HS.out k x (by rw [List.getElem?_eq_getElem hkl, hx])
      have hbn := HLT.out b off ha (by omega)
      subst ha
      have e0 : wr.cell? ⟨b, off + k * 3, none⟩ = some (.int .i64 x.blk) := by rw [hb.out.cell (p := ⟨b, off + k * 3, none⟩) hbn]; exact c0
      have e1 : wr.cell? ⟨b, off + k * 3 + 1, none⟩ = some (.int .i64 x.st) := by rw [hb.out.cell (p := ⟨b, off + k * 3 + 1, none⟩) hbn]; exact c1
      have e2 : wr.cell? ⟨b, off + k * 3 + 2, none⟩ = some (.string x.txt) := by rw [hb.out.cell (p := ⟨b, off + k * 3 + 2, none⟩) hbn]; exact c2
      have hbl : b < wr.heap.size := block_lt_of_cell e0
      clear c0 c1 c2
      have hJ1 : J (l.take k) (wr.alloc (hobj x)) := HJ.out _ wr _ none hJs.out (World.grownBy_alloc wr _ none) (fun r e => by cases e)
      obtain ⟨fn, tmps, assign, body, hy, hR⟩ := HY.out (l.take k) x (wr.alloc (hobj x)) hJ1 (by rw [List.length_take]; omega)
      have HR := Lib.hid hR
      have HX := Lib.hid hx
      clear hR hx hJ1
      unfold hval at hy
      gi_wp2
      refine HR.out.mono ?_
      rintro e W3 (⟨rfl, hJ3, hk3⟩ | ⟨rfl, hJx3⟩)
      · have HJ3 := Lib.hid hJ3
        have HK3 := Lib.hid hk3
        clear hJ3 hk3
        gi_wp2
        go_roundw
        case rel =>
          refine ⟨k + 1, by omega, by go_num, ?_, Lib.hid (hb.out.trans (((Below.refl _ wr).alloc (by omega) _).trans HK3.out.1)), ?_⟩
          · rw [take_snoc l k hkl, HX.out]; exact HJ3
          · have h := HK3.out.2.size
            rw [size_alloc'] at h
            omega
        case measure => simp [intOf]; omega
      · have HJX := Lib.hid hJx3
        clear hJx3
        gi_wp2
        refine bodyPost_ret (results_none rfl _ _ _) rfl ?_
        exact ⟨⟨_, rfl⟩, .inr ⟨_, trivial, HJX.out⟩⟩
    · have hkm2 : k = m := by omega
      subst hkm2
      gi_wp2
      go_end0
      refine ⟨⟨_, rfl⟩, .inl ⟨_, rfl, ?_⟩⟩
      have h := hJs.out
      rwa [List.take_of_length_le (by rw [HM.out]; omega)] at h

/-! ### going through a desk -/
/-- What has come. -/
def Came (l : List Hd) (left : Lit → Bool) (ps : List Hd) : Prop := ps.Nodup ∧ ∀ h, h ∈ ps ↔ (h ∈ l ∧ left (Lk h.blk) = false)
theorem Came.start {D : DW} {l : List Hd} (hd : Desk D l) : Came l (Go.Maps.has D) [] := by
  refine ⟨List.nodup_nil, fun h => ?_⟩
  rw [hd.has]
  constructor
  · intro hh; cases hh
  · rintro ⟨hh, e⟩
    rw [find_of_mem hd.rise hh rfl] at e
    cases e
theorem Came.step {D : DW} {l ps : List Hd} {left : Lit → Bool} (h : Came l left ps) (hd : Desk D l) {x : Hd} {kb : Int} (hlk : left (Lk kb) = true) (hat : ∀ z, D.atKey (Lk kb) z = hdat x) :
    x.blk = kb ∧ Came l (fun z => left z && !z.sameKey (Lk kb)) (ps ++ [x]) := by
  have hf : find kb l = some x := by
    have h1 := hat (.nil)
    rw [hd.at_] at h1
    cases hf : find kb l with
    | none => rw [hf] at h1; cases h1
    | some y => rw [hf] at h1; rw [hdat_inj h1]
  obtain ⟨hx, hb⟩ := find_some hf
  refine ⟨hb, ?_⟩
  subst hb
  have hnew : x ∉ ps := fun hp => by have := ((h.2 x).1 hp).2; rw [hlk] at this; cases this
  refine ⟨List.nodup_append.2 ⟨h.1, by simp, fun a ha b hb => by simp at hb; subst hb; exact fun e => hnew (e ▸ ha)⟩, fun y => ?_⟩
  show _ ↔ y ∈ l ∧ (left (Lk y.blk) && !(Lk y.blk).sameKey (Lk x.blk)) = false
  rw [List.mem_append, List.mem_singleton, h.2 y, same_lit]
  constructor
  · rintro (⟨h1, h2⟩ | rfl)
    · exact ⟨h1, by rw [h2]; rfl⟩
    · exact ⟨hx, by simp⟩
  · rintro ⟨h1, h2⟩
    by_cases e : y.blk = x.blk
    · right
      have e1 := find_of_mem hd.rise h1 e
      rw [hf] at e1
      injection e1 with e1
      exact e1.symm
    · left
      rw [decide_eq_false e] at h2
      exact ⟨h1, by simpa using h2⟩
theorem Came.done {l ps : List Hd} {left : Lit → Bool} (h : Came l left ps) (hr : Rise l) (hl : ∀ k, left k = false) : ps.Perm l := by
  refine (List.perm_ext_iff_of_nodup h.1 ?_).2 (fun x => by rw [h.2 x, hl]; simp)
  rw [List.nodup_iff_pairwise_ne]
  exact hr.imp fun h e => by rw [e] at h; omega
theorem keyInv (key : Value) (kl : Lit) (h : keyOf Try.prog 3 key = some kl) : ∃ x, key = .int .i64 x := by
  obtain ⟨x, rfl, _⟩ := Go.Maps.keyOf_int_inv Try.underlying3 h
  exact ⟨x, rfl⟩
theorem keyIs {x : Int} {kl : Lit} (h : keyOf Try.prog 3 (.int .i64 x) = some kl) : kl = Lk x := by
  obtain ⟨y, e, rfl, _⟩ := Go.Maps.keyOf_int_inv Try.underlying3 h
  cases e; rfl
set_option maxRecDepth 100000 in
set_option maxHeartbeats 2000000 in
/-- Going through a desk. -/
theorem mvalues_seq (n n₀ Bs b nn : Nat) (hn : 1 ≤ n) (l : List Hd) (w : World) (hdesk : DeskW w b nn l) (hn₀ : n₀ ≤ w.heap.size) (hBs : Bs < w.heap.size) (hbox : w.cell? ⟨Bs, 0, none⟩ = some (.map (some b))) :
    SeqStopsK Fence.wide n Try.prog 44 #[.pointer (some ⟨Bs, 0, none⟩)] (fun x : Hd => #[hval x]) (KpW n₀) (fun ys => ys.Perm l) (fun _ => True) l.length w := by
  intro lp J Jx W hW hJ hJx hY h0
  refine callsIn_of_wp Try.func44 rfl trivial ?_ rfl
  simp only [Try.ntmps44, List.size_toArray, List.length_cons, List.length_nil, Nat.reduceAdd, Nat.reduceSub, Array.replicate_succ, Array.replicate_zero, List.push_toArray, List.append_toArray, List.nil_append, List.cons_append]
  have hbx : W.cell? ⟨Bs, 0, none⟩ = some (.map (some b)) := by rw [hW.cell (p := ⟨Bs, 0, none⟩) hBs]; exact hbox
  obtain ⟨D, hown, hd⟩ := hdesk.below hW (Nat.le_refl _)
  have hn2 : n₀ ≤ W.heap.size := by have := hW.size; omega
  have HJ := Lib.hid hJ
  have HY := Lib.hid hY
  have H0 := Lib.hid h0
  have HD := Lib.hid hd
  clear hd hJ hY h0 hJx hW hbox hdesk
  gi_wp2_with (first
    | (gi_at_range; refine wpListIn_range_own _ rfl _ 61 rfl 3 TH dk Try.underlying61 heldR b nn D rfl hown ?_; intro w0 hrg0 hg0 hs0)
    | gi_in)
  gi_loopw [4] (fun _ wr => ∃ (left : Lit → Bool) (cnt : Nat) (ps : List Hd), RowKit.Hid (wr.ranges Try.prog 3 heldR b W.heap.size nn D left cnt) ∧ RowKit.Hid (ps.length + cnt ≤ l.length) ∧ RowKit.Hid (Came l left ps) ∧ RowKit.Hid (J ps wr)) (fun _ wr => wr.rangeLeft b W.heap.size)
  case atStart =>
    exact ⟨_, _, [], Lib.hid hrg0, Lib.hid (by rw [HD.out.size]; simp), Lib.hid (Came.start HD.out), Lib.hid (HJ.out [] W w0 none H0.out hg0 (fun r e => by cases e))⟩
  case round =>
    obtain ⟨left, cnt, ps, hrg, hcs, hC, hJs⟩ := hrel
    gi_wp2_with (first
      | (gi_at_next; refine wpListIn_next_ranges _ rfl _ rfl 3 dk heldR (Value.int .i64) hval keyInv (fun v y hv => by obtain ⟨x, e, _⟩ := heldR_inv hv; exact ⟨x, e⟩) b W.heap.size nn _ _ _ rfl hrg.out ?_ ?_)
      | gi_in)
    · intro hc0 hl0
      gi_wp2
      go_end0
      exact ⟨⟨_, rfl⟩, .inl ⟨ps, hC.out.done HD.out.rise hl0, hJs.out⟩⟩
    · intro xk x kl yd yp w2 cnt2 hkey hlk hv hat hrg2 hlt hg2 hs2 hen
      have hkl := keyIs hkey
      subst hkl
      obtain ⟨x', ex, ey⟩ := heldR_inv hv
      have ex := hval_inj ex
      subst ex
      injection ey with ey _
      subst ey
      obtain ⟨hxk, hC2⟩ := hC.out.step HD.out hlk hat
      subst hxk
      have hJ2 : J ps w2 := HJ.out ps wr w2 (some W.heap.size) hJs.out hg2 (fun r e => by cases e; exact ⟨Nat.le_refl _, hrg.out.iter_walk⟩)
      have hJ3 : J ps (w2.alloc (hobj x)) := HJ.out _ w2 _ none hJ2 (World.grownBy_alloc w2 _ none) (fun r e => by cases e)
      obtain ⟨fn, tmps, assign, body, hy, hR⟩ := HY.out ps x (w2.alloc (hobj x)) hJ3 (by have := hcs.out; omega)
      have HR := Lib.hid hR
      have HC2 := Lib.hid hC2
      have HRG := Lib.hid hrg
      have HRG2 := Lib.hid (hrg2.of_walks (KeepsWalks.alloc w2 (hobj x)))
      have HLT := Lib.hid hlt
      have HCS2 : RowKit.Hid ((ps ++ [x]).length + cnt2 ≤ l.length) := Lib.hid (by have := hcs.out; simp; omega)
      clear hs2 hR hC2 hrg hlt hJ2 hJ3 hrg2 hkey hat hv hlk hg2 hcs
      unfold hval at hy hen
      gi_wp2
      refine HR.out.mono ?_
      rintro e W3 (⟨rfl, hJ3, hk3⟩ | ⟨rfl, hJx3⟩)
      · have HJ3 := Lib.hid hJ3
        have hrg3 := HRG2.out.of_walks hk3.2
        have HRG3 := Lib.hid hrg3
        clear hJ3 hrg3 hk3
        gi_wp2
        go_roundw
        case rel => exact ⟨_, cnt2, ps ++ [x], HRG3, HCS2, HC2, HJ3⟩
        case measure => rw [HRG3.out.left_eq, HRG.out.out.left_eq]; exact HLT.out
      · have HJX := Lib.hid hJx3
        clear hJx3
        gi_wp2
        refine bodyPost_ret (results_none rfl _ _ _) rfl ?_
        exact ⟨⟨_, rfl⟩, .inr ⟨_, trivial, HJX.out⟩⟩

/-! ### what is collected -/
theorem kpw_t {n₀ : Nat} {A B C : World} (h : KpW n₀ A B) (k : KpW n₀ B C) : KpW n₀ A C := ⟨h.1.trans k.1, h.2.trans k.2⟩
theorem kpw_b {n₀ : Nat} {w : World} (hn : n₀ ≤ w.heap.size) (W : World) (l : Nat) (o o' : Obj) (hl : w.heap.size ≤ l) (h : W.heap[l]? = some o) (h1 : o.isCells = false) (h2 : o.isWalk = false) : KpW n₀ W (W.putObj l o') :=
  ⟨belowK_b hn W l o o' hl h h1 h2, walksK_b W l o o' hl h h1 h2⟩
/-- Between two rounds. -/
def Coll (n₀ B : Nat) (pre : List Hd) (W : World) : Prop := ∃ v, Boxed W B 23 v ∧ W.ownsRow n₀ TH 3 v pre.length (flat pre) ∧ True
theorem coll_own (n₀ B : Nat) : Own (Coll n₀ B) := holdsRow_own n₀ B 23 TH 3 (fun pre : List Hd => pre.length) (fun pre => flat pre) (fun _ _ => True)

set_option maxRecDepth 100000 in
set_option maxHeartbeats 2000000 in
theorem appendSeq_any (g : Nat) (lb : Array Value) (S : List Hd → Prop) (N : Nat) (hN : N ≤ 1000) (w : World) (eg : ∀ args w, (callFunc g args).run Try.prog w = .ok (.enter g args) w)
    (hseq : SeqStopsK Fence.wide 2 Try.prog g lb (fun x : Hd => #[hval x]) (KpW w.heap.size) S (fun _ => True) N w) :
    Calls Try.prog 43 #[.slice none 0 0, .func (.func g) #[] lb] w fun e w' => ∃ a n c l, e = .returned (.slice a n c) ∧ S l ∧ OwnH w' w.heap.size a n c l ∧ Below w.heap.size w w' := by
  refine (callsIn_wide (n := 3)).1 ?_
  refine callsIn_of_wp_marks Try.func43 rfl trivial ?_ rfl
  simp only [Try.ntmps43, List.size_toArray, List.length_cons, List.length_nil, Nat.reduceAdd, Nat.reduceSub, Array.replicate_succ, Array.replicate_zero, List.push_toArray, List.append_toArray, List.nil_append, List.cons_append]
  have HSEQ := Lib.hid hseq
  have EG := Lib.hid eg
  clear hseq eg
  gi_wp2
  have hb0 : Below w.heap.size w (w.alloc (.cells #[.slice none 0 0] 23)) := (Below.refl _ _).alloc (Nat.le_refl _) _
  refine wpIn_rangeFunc_ownH (F := Fence.wide) (n := 3) rfl (by omega) (gf := g) (lb := lb) rfl trivial EG.out HSEQ.out kpw_t (kpw_b (by rw [size_alloc']; omega)) hb0 (fun _ => rfl)
    (fun pre W => Coll w.heap.size w.heap.size pre W ∧ Below w.heap.size w W) (fun _ _ _ => False)
    (OwnFrom.and (Own.from (coll_own _ _) _) (ownFrom_below (Nat.le_refl _) (by rw [size_alloc']; omega))) (fun _ _ _ _ _ hs _ _ => hs)
    ⟨⟨_, Boxed.new w _ _, by have h := (OwnH.start w w.heap.size).alloc (.cells #[.slice none 0 0] 23); exact h, trivial⟩, hb0⟩
    (fun x a' W => ∃ Bx, w.heap.size + 1 ≤ Bx ∧ HBox W Bx x ∧ a' = { tmps := #[.slice none 0 0, .func (.func g) #[] lb, .pointer (some ⟨w.heap.size, 0, none⟩), undef, .slice none 0 0, .pointer (some ⟨Bx, 0, none⟩), .func (.func g) #[] lb, hval x, undef, undef, undef, undef, undef], defers := [] })
    (fun x a' => by
      rintro s X Y row ⟨Bx, h1, h2, h3⟩ hg hr
      exact ⟨Bx, h1, HBox.own Bx _ x () X Y row h2 hg hr, h3⟩) ?assign ?body ?done ?stop
  case assign =>
    rintro l pre x W K ⟨⟨v, hv, hrow, _⟩, hB⟩ hK
    have hsz := hv.lt
    unfold hval at *
    gi_wp2
    exact hK _ _ ((KeepsOthers.alloc _ _).from _) ⟨(Below.refl _ W).alloc hB.size _, KeepsWalks.alloc _ _⟩ ⟨⟨v, hv.alloc _, hrow.alloc _, trivial⟩, hB.alloc hB.size _⟩ ⟨W.heap.size, by omega, HBox.new W x, rfl⟩
  case body =>
    rintro l pre x a' W hl ⟨r, hr⟩ ⟨⟨v, hv, hrow, _⟩, hB⟩ ⟨Bx, hBx, bX, rfl⟩ hlen
    obtain ⟨i0, hi, hz0, hz1, hz2⟩ := info_parts infoH
    obtain ⟨x0, x1, x2⟩ := bX.at_
    have hvc := hv.cell
    have hvf := hv.frozen
    have hlt0 := hv.lt
    have hlt1 := bX.lt
    have HCEL := Lib.hid (show ∀ j u, (hcells x)[j]? = some u → (W.alloc (hobj x)).cell? ((⟨W.heap.size, 0, none⟩ : Addr).add j) = some u from fun j u hu => (HBox.new W x).src.cells j u (by rw [flat_one]; exact hu))
    have HROW := Lib.hid (hrow.alloc (hobj x))
    have HROW0 := Lib.hid hrow
    have HV := Lib.hid hv
    have HB := Lib.hid hB
    have HI := Lib.hid hi
    have HZ0 := Lib.hid hz0
    have HZ1 := Lib.hid hz1
    have HZ2 := Lib.hid hz2
    clear hrow hv hr bX hi hz0 hz1 hz2 hB hb0
    unfold hval
    gi_wp2_with (gi_at_builtin; refine wpListIn_append_own _ rfl _ _ 23 rfl w.heap.size TH i0 _ 3 32 Try.underlying23 HI.out HZ0.out HZ1.out HZ2.out rfl (by decide) _ _ _ rfl HROW.out ⟨W.heap.size, 0, none⟩ 1 1 (hcells x) rfl rfl HCEL.out (by rw [← flat_one]; exact flat_one_cell _) (by unfold maxLen; omega) (by omega) (by rw [size_alloc']; omega) ?_; intro v' w1 hown' hgrow _; obtain ⟨g', cap', rfl⟩ := ownsRow_succ hown'; obtain ⟨hv1, hv2, hr2, hk2, hb2⟩ := HV.out.appended (by decide) HROW0.out HB.out.size (Nat.le_refl _) hown' hgrow; have hc1 := hv1.cell; have hf1 := hv1.frozen)
    exact ⟨hk2.from _, ⟨hb2, hk2.walks⟩, ⟨_, hv2, by rw [flat_snoc, List.length_append]; exact hr2, trivial⟩, HB.out.trans hb2⟩
  case done =>
    rintro D ys W hD hS ⟨⟨v, hv, hrow, _⟩, hB⟩ hK
    obtain ⟨a', c', rfl⟩ : ∃ a' c', v = .slice a' ys.length c' := by
      rcases Joins.ownsRow_forms hrow with ⟨rfl, h0⟩ | ⟨g, cap, rfl⟩
      · rw [h0]; exact ⟨_, _, rfl⟩
      · exact ⟨_, _, rfl⟩
    have hvc := hv.cell
    have HS := Lib.hid hS
    have HROW := Lib.hid hrow
    have HB := Lib.hid hB
    have HK := Lib.hid hK
    clear hS hrow hB hb0 hK
    gi_wp2
    refine ⟨by simp, .inl ⟨_, _, rfl, run_takeDeferred HK.out, ?_⟩⟩
    exact ⟨_, results_tmp rfl _ _ _, _, _, _, _, rfl, HS.out, ownsRow_putObj HROW.out _ HK.out rfl, HB.out.trans (belowK_b (w := w) (Nat.le_refl _) W D _ _ (by rw [size_alloc'] at hD; omega) HK.out rfl rfl)⟩
  case stop =>
    rintro D c pre W _ _ h _
    exact h.elim
end Cache
end Go.Proofs.Ytpkhafijmbgcnaa
