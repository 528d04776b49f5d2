/- A region that draws its order, whose operations only read and whose callees make new memory alone: one walk of the text's order serves every order. No program in sight. -/
import Derived.Test.YtpkhafijmbgcnaaOwn
import Derived.BigQuiet
namespace Go.Proofs.Ytpkhafijmbgcnaa
namespace Kit
open Go.RowKit
set_option linter.unusedVariables false

/-- A world behind w: what was there is as it was. -/
structure Cls (w : World) where
  to : World
  below : Below w.heap.size w to
instance (w : World) : Nonempty (Cls w) := ⟨⟨w, Below.refl _ _⟩⟩

theorem region_below {P : Program} {id : Nat} {Q : Exit → Act → World → Prop} {a : Act} {w : World} {l : List Oper} (hm : P.follows .mixedOrders = true) (hB : Region.lexB .any l.toArray = true)
    (h : wpQuiet P l.toArray (fun w' => ∃ s : Cls w, w' = s.to) (fun a' => ∀ w', (∃ s : Cls w, w' = s.to) → Q .normal a' w') l a) : (Code.region id l.toArray true).wp P Q a w :=
  wp_region_quiet (C := fun w' => ∃ s : Cls w, w' = s.to) hm hB ⟨⟨w.drew, (Below.refl _ _).drew⟩, rfl⟩ (by simpa using h)

theorem quiet_call {P : Program} {f : FuncId} {args : Array Value} {v : Value} {w : World} {s : Cls w} (h : Calls P f args s.to fun e w' => e = .returned v ∧ Below s.to.heap.size s.to w') :
    Calls P f args s.to fun e w'' => e = .returned v ∧ ∃ t : Cls w, w'' = t.to :=
  h.mono fun e w' ⟨he, hb⟩ => ⟨he, ⟨w', s.below.trans (hb.mono s.below.size)⟩, rfl⟩
theorem quiet_same {P : Program} {f : FuncId} {args : Array Value} {v : Value} {w : World} {s : Cls w} (h : Calls P f args s.to fun e w' => e = .returned v ∧ s.to = w') :
    Calls P f args s.to fun e w'' => e = .returned v ∧ ∃ t : Cls w, w'' = t.to :=
  h.mono fun e w' ⟨he, hb⟩ => ⟨he, s, hb.symm⟩
theorem Src.cls {w : World} {a : Option Addr} {xs : List Value} (h : Src w a xs) (s : Cls w) : Src s.to a xs := h.below s.below

/-! ### Bytes -/
def bval (x : UInt8) : Value := .int .u8 (x.toNat : Int)
theorem bval_one (l : List UInt8) : ∀ u ∈ l.map bval, u.oneCell' = true := by
  intro u hu
  obtain ⟨x, _, rfl⟩ := List.mem_map.1 hu
  rfl
/-- 'string(b)' of whatever reads as these bytes. -/
theorem Src.text {P : Program} {w : World} {a : Option Addr} {l : List UInt8} {n c : Nat} {src dst e : TypeId} (h : Src w a (l.map bval)) (hn : l.length = n)
    (hs : P.underlying src = some (.slice e)) (he : P.underlying e = some (.int .u8)) (hd : P.underlying dst = some .string) :
    (convert src dst (.slice a n c)).run P w = .ok (.string ⟨l.toArray⟩) w := by
  subst hn
  cases a with
  | none =>
    have hl : l = [] := by
      cases l with
      | nil => rfl
      | cons x l => obtain ⟨b, off, ha, _⟩ := h 0 (bval x) rfl; cases ha
    subst hl
    rw [run_convert_bytes_string w src dst e _ _ _ hs he hd]
    simp [Conv.bytesToString]
    rfl
  | some y =>
    refine run_convert_bytes_back w src dst e y c l hs he hd ?_
    intro j hj
    obtain ⟨b, off, ha, hc⟩ := h j (bval l[j]) (by rw [List.getElem?_map, List.getElem?_eq_getElem hj]; rfl)
    injection ha with ha
    subst ha
    rw [addr_add]
    exact hc
theorem map_bval (t : ByteArray) : (t.data.map (fun b => Value.int .u8 b.toNat)).toList = t.data.toList.map bval := by
  simp [bval]
/-- '[]byte(s)': the new block reads as the bytes. -/
theorem new_bytes (w : World) (t : ByteArray) (cp e x y : Nat) : Src (w.drew.alloc (.cells (bytesRow t cp) e (x, y))) (some ⟨w.heap.size, 0, none⟩) (t.data.toList.map bval) := by
  intro j u hu
  have hj : j < t.data.size := by
    rcases Nat.lt_or_ge j t.data.size with h | h
    · exact h
    · rw [List.getElem?_eq_none (by simpa using h)] at hu; cases hu
  refine ⟨_, _, rfl, ?_⟩
  have h1 := World.cell?_alloc_mark w.drew (bytesRow t cp) e (x, y) j
  have h2 : (w.drew.alloc (.cells (bytesRow t cp) e (x, y))).cell? ⟨w.heap.size, j, none⟩ = (bytesRow t cp)[j]? := h1
  rw [Nat.zero_add, h2, bytesRow_at t cp j hj]
  rw [List.getElem?_map, List.getElem?_eq_getElem (show j < t.data.toList.length from by simpa using hj)] at hu
  injection hu with hu
  rw [← hu]; rfl
end Kit
end Go.Proofs.Ytpkhafijmbgcnaa
