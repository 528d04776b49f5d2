/-
  No cell of these rows narrows 'for every input' (looked for: loops, veiled, ifaces, maps, wideKeys, modest, calm, conditions, laid).
  DERIVED. THE GIVEN ROWS OF THIS SEAT. 6 by the template 'for every input the law returns true; each argument reads behind the call as it read before'; 0 by the template 'total and deterministic' (their statements: YtlanididnlmnhaaTotals.lean).
  GIVEN WITH THE SEED: the statements are not yours to turn. If you find one false, say at which input.
  Laid BY PROGRAM, IN A SANDBOX (cutbox-rows.mjs): the forced cells as the released guide's own fill.sh prints them over the translation 98b02368647956e2… (all of the seat's roots in one cut). By AI agents, Wed Nov 11 2026. No macro, syntax, notation, axiom, sorry.
-/
import Derived.Test.YtlanididnlmnhaaChecked
import GoSem.Claim
import GoSem.ClaimJoined
import GoSem.ClaimMapViews
import Derived.JoinedTies
import Derived.KernelRfl
namespace Go.Proofs.Ytlanididnlmnhaa
/- THE CELL 'sum', in the pinned program and in every row, IS THE sha256 OF THE DUMP (.gsa) THAT YtlanididnlmnhaaProg.lean LOADS. Nothing in Lean hashes anything: it is a label: what it is worth is what the hold of that sum in a sandbox is worth. -/
noncomputable def Try.pinned : Pinned := { name := "ytlanididnlmnhaa", sum := "98b02368647956e2f3e3245e3acc51524df6cabc97de2a31a888ea58306b44a0", checked := Try.checked }
namespace Rows
def none {H : Type} : Left H := { results := [], args := [] }

/-- 'pressmarklaw05.FrontTells': WHATEVER THE INPUT: true; the input reads as it did. -/
def frontTellsSpec : ChangeSpec := { name := "frontTells", fn := fun _ => fun
  | [d1, d2, d3, d4] => { results := [.lit (.bool true)], args := [d1, d2, d3, d4] }
  | _ => none }
def frontTellsRow : OpenClaim := { program := "ytlanididnlmnhaa", sum := "98b02368647956e2f3e3245e3acc51524df6cabc97de2a31a888ea58306b44a0", func := "pressmark/pressmarklaw05.FrontTells", spec := "frontTells", inPlace := ["internal/bytealg.IndexByte"], apart := false }
def FrontTellsSaid : Prop := frontTellsRow.holds Try.pinned (OpenSpec.ofChange frontTellsSpec)

/-- ITS FALSE NEIGHBOUR: 'it returns false'. Refute it at one input. -/
def frontTellsWrong : ChangeSpec := { name := "frontTells", fn := fun _ => fun
  | [d1, d2, d3, d4] => { results := [.lit (.bool false)], args := [d1, d2, d3, d4] }
  | _ => none }
def FrontTellsWrongFalsely : Prop := frontTellsRow.holds Try.pinned (OpenSpec.ofChange frontTellsWrong)

/-- 'pressmarklaw05.FrontBack': WHATEVER THE INPUT: true; the input reads as it did. -/
def frontBackSpec : ChangeSpec := { name := "frontBack", fn := fun _ => fun
  | [d1, d2] => { results := [.lit (.bool true)], args := [d1, d2] }
  | _ => none }
def frontBackRow : OpenClaim := { program := "ytlanididnlmnhaa", sum := "98b02368647956e2f3e3245e3acc51524df6cabc97de2a31a888ea58306b44a0", func := "pressmark/pressmarklaw05.FrontBack", spec := "frontBack", inPlace := ["internal/bytealg.IndexByte"], apart := false }
def FrontBackSaid : Prop := frontBackRow.holds Try.pinned (OpenSpec.ofChange frontBackSpec)

/-- ITS FALSE NEIGHBOUR: 'it returns false'. Refute it at one input. -/
def frontBackWrong : ChangeSpec := { name := "frontBack", fn := fun _ => fun
  | [d1, d2] => { results := [.lit (.bool false)], args := [d1, d2] }
  | _ => none }
def FrontBackWrongFalsely : Prop := frontBackRow.holds Try.pinned (OpenSpec.ofChange frontBackWrong)

/-- 'pressmarklaw05.FrontParts': WHATEVER THE INPUT: true; the input reads as it did. -/
def frontPartsSpec : ChangeSpec := { name := "frontParts", fn := fun _ => fun
  | [d1, d2, d3] => { results := [.lit (.bool true)], args := [d1, d2, d3] }
  | _ => none }
def frontPartsRow : OpenClaim := { program := "ytlanididnlmnhaa", sum := "98b02368647956e2f3e3245e3acc51524df6cabc97de2a31a888ea58306b44a0", func := "pressmark/pressmarklaw05.FrontParts", spec := "frontParts", inPlace := ["internal/bytealg.IndexByte"], apart := false }
def FrontPartsSaid : Prop := frontPartsRow.holds Try.pinned (OpenSpec.ofChange frontPartsSpec)

/-- ITS FALSE NEIGHBOUR: 'it returns false'. Refute it at one input. -/
def frontPartsWrong : ChangeSpec := { name := "frontParts", fn := fun _ => fun
  | [d1, d2, d3] => { results := [.lit (.bool false)], args := [d1, d2, d3] }
  | _ => none }
def FrontPartsWrongFalsely : Prop := frontPartsRow.holds Try.pinned (OpenSpec.ofChange frontPartsWrong)

/-- 'pressmarklaw05.FrontAgain': WHATEVER THE INPUT: true; the input reads as it did. -/
def frontAgainSpec : ChangeSpec := { name := "frontAgain", fn := fun _ => fun
  | [d1, d2] => { results := [.lit (.bool true)], args := [d1, d2] }
  | _ => none }
def frontAgainRow : OpenClaim := { program := "ytlanididnlmnhaa", sum := "98b02368647956e2f3e3245e3acc51524df6cabc97de2a31a888ea58306b44a0", func := "pressmark/pressmarklaw05.FrontAgain", spec := "frontAgain", inPlace := ["internal/bytealg.IndexByte"], apart := false }
def FrontAgainSaid : Prop := frontAgainRow.holds Try.pinned (OpenSpec.ofChange frontAgainSpec)

/-- ITS FALSE NEIGHBOUR: 'it returns false'. Refute it at one input. -/
def frontAgainWrong : ChangeSpec := { name := "frontAgain", fn := fun _ => fun
  | [d1, d2] => { results := [.lit (.bool false)], args := [d1, d2] }
  | _ => none }
def FrontAgainWrongFalsely : Prop := frontAgainRow.holds Try.pinned (OpenSpec.ofChange frontAgainWrong)

/-- 'pressmarklaw05.FrontSelf': WHATEVER THE INPUT: true; the input reads as it did. -/
def frontSelfSpec : ChangeSpec := { name := "frontSelf", fn := fun _ => fun
  | [d] => { results := [.lit (.bool true)], args := [d] }
  | _ => none }
def frontSelfRow : OpenClaim := { program := "ytlanididnlmnhaa", sum := "98b02368647956e2f3e3245e3acc51524df6cabc97de2a31a888ea58306b44a0", func := "pressmark/pressmarklaw05.FrontSelf", spec := "frontSelf", inPlace := ["internal/bytealg.IndexByte"], apart := false }
def FrontSelfSaid : Prop := frontSelfRow.holds Try.pinned (OpenSpec.ofChange frontSelfSpec)

/-- ITS FALSE NEIGHBOUR: 'it returns false'. Refute it at one input. -/
def frontSelfWrong : ChangeSpec := { name := "frontSelf", fn := fun _ => fun
  | [d] => { results := [.lit (.bool false)], args := [d] }
  | _ => none }
def FrontSelfWrongFalsely : Prop := frontSelfRow.holds Try.pinned (OpenSpec.ofChange frontSelfWrong)

/-- 'pressmarklaw05.FrontNames': WHATEVER THE INPUT: true; the input reads as it did. -/
def frontNamesSpec : ChangeSpec := { name := "frontNames", fn := fun _ => fun
  | [d1, d2, d3] => { results := [.lit (.bool true)], args := [d1, d2, d3] }
  | _ => none }
def frontNamesRow : OpenClaim := { program := "ytlanididnlmnhaa", sum := "98b02368647956e2f3e3245e3acc51524df6cabc97de2a31a888ea58306b44a0", func := "pressmark/pressmarklaw05.FrontNames", spec := "frontNames", inPlace := ["internal/bytealg.IndexByte"], apart := false }
def FrontNamesSaid : Prop := frontNamesRow.holds Try.pinned (OpenSpec.ofChange frontNamesSpec)

/-- ITS FALSE NEIGHBOUR: 'it returns false'. Refute it at one input. -/
def frontNamesWrong : ChangeSpec := { name := "frontNames", fn := fun _ => fun
  | [d1, d2, d3] => { results := [.lit (.bool false)], args := [d1, d2, d3] }
  | _ => none }
def FrontNamesWrongFalsely : Prop := frontNamesRow.holds Try.pinned (OpenSpec.ofChange frontNamesWrong)

/- THE SECOND FORM. 'bulk': how many values and letters a reading holds, each counted each time it is reached (what is shared counts as often as it is met; a slice's spare places count too). A statement '..UptoSaid' is the law's where the arguments, and the package variables that the reading takes, are together of bulk at most 1048576: NARROWER than '..Said'. Prove '..Said' where nothing that the law and all that it calls make is longer than what came in: it says more and counts as full. Else prove '..UptoSaid'. A law counts once. -/
mutual
def uptoBulk {H : Type} : DataW H → Nat
  | .lit (.string bytes) => bytes.length + 1
  | .lit _ => 1
  | .nil => 1
  | .ptr d => uptoBulk d + 1
  | .slice elems spare => uptoBulkAll elems + uptoBulkAll spare + 1
  | .agg parts => uptoBulkAll parts + 1
  | .iface _ d => uptoBulk d + 1
  | .map entries => uptoBulkEntries entries + 1
  | .held _ => 1
def uptoBulkAll {H : Type} : List (DataW H) → Nat
  | [] => 0
  | d :: r => uptoBulk d + uptoBulkAll r
def uptoBulkEntries {H : Type} : List (Lit × DataW H) → Nat
  | [] => 0
  | x :: r => uptoBulkEntry x + uptoBulkEntries r
def uptoBulkEntry {H : Type} : Lit × DataW H → Nat
  | (.string bytes, d) => bytes.length + uptoBulk d + 1
  | (_, d) => uptoBulk d + 1
 end
def uptoSmall : (H : Type) → List (DataW H) → Bool := fun _ ds => decide (uptoBulkAll ds ≤ 1048576)
def OpenSpec.upto (s : _root_.Go.ChangeSpec) : _root_.Go.OpenSpec := { _root_.Go.OpenSpec.ofChange s with cond := some uptoSmall }

/-- 'pressmarklaw05.FrontTells', WHERE WHAT IT READS IS OF BULK AT MOST 1048576: true; the input reads as it did. -/
def frontTellsUptoRow : OpenClaim := { program := "ytlanididnlmnhaa", sum := "98b02368647956e2f3e3245e3acc51524df6cabc97de2a31a888ea58306b44a0", func := "pressmark/pressmarklaw05.FrontTells", spec := "frontTells", inPlace := ["internal/bytealg.IndexByte"], apart := false, narrowed := true }
def FrontTellsUptoSaid : Prop := frontTellsUptoRow.holds Try.pinned (OpenSpec.upto frontTellsSpec)

/-- 'pressmarklaw05.FrontBack', WHERE WHAT IT READS IS OF BULK AT MOST 1048576: true; the input reads as it did. -/
def frontBackUptoRow : OpenClaim := { program := "ytlanididnlmnhaa", sum := "98b02368647956e2f3e3245e3acc51524df6cabc97de2a31a888ea58306b44a0", func := "pressmark/pressmarklaw05.FrontBack", spec := "frontBack", inPlace := ["internal/bytealg.IndexByte"], apart := false, narrowed := true }
def FrontBackUptoSaid : Prop := frontBackUptoRow.holds Try.pinned (OpenSpec.upto frontBackSpec)

/-- 'pressmarklaw05.FrontParts', WHERE WHAT IT READS IS OF BULK AT MOST 1048576: true; the input reads as it did. -/
def frontPartsUptoRow : OpenClaim := { program := "ytlanididnlmnhaa", sum := "98b02368647956e2f3e3245e3acc51524df6cabc97de2a31a888ea58306b44a0", func := "pressmark/pressmarklaw05.FrontParts", spec := "frontParts", inPlace := ["internal/bytealg.IndexByte"], apart := false, narrowed := true }
def FrontPartsUptoSaid : Prop := frontPartsUptoRow.holds Try.pinned (OpenSpec.upto frontPartsSpec)

/-- 'pressmarklaw05.FrontAgain', WHERE WHAT IT READS IS OF BULK AT MOST 1048576: true; the input reads as it did. -/
def frontAgainUptoRow : OpenClaim := { program := "ytlanididnlmnhaa", sum := "98b02368647956e2f3e3245e3acc51524df6cabc97de2a31a888ea58306b44a0", func := "pressmark/pressmarklaw05.FrontAgain", spec := "frontAgain", inPlace := ["internal/bytealg.IndexByte"], apart := false, narrowed := true }
def FrontAgainUptoSaid : Prop := frontAgainUptoRow.holds Try.pinned (OpenSpec.upto frontAgainSpec)

/-- 'pressmarklaw05.FrontSelf', WHERE WHAT IT READS IS OF BULK AT MOST 1048576: true; the input reads as it did. -/
def frontSelfUptoRow : OpenClaim := { program := "ytlanididnlmnhaa", sum := "98b02368647956e2f3e3245e3acc51524df6cabc97de2a31a888ea58306b44a0", func := "pressmark/pressmarklaw05.FrontSelf", spec := "frontSelf", inPlace := ["internal/bytealg.IndexByte"], apart := false, narrowed := true }
def FrontSelfUptoSaid : Prop := frontSelfUptoRow.holds Try.pinned (OpenSpec.upto frontSelfSpec)

/-- 'pressmarklaw05.FrontNames', WHERE WHAT IT READS IS OF BULK AT MOST 1048576: true; the input reads as it did. -/
def frontNamesUptoRow : OpenClaim := { program := "ytlanididnlmnhaa", sum := "98b02368647956e2f3e3245e3acc51524df6cabc97de2a31a888ea58306b44a0", func := "pressmark/pressmarklaw05.FrontNames", spec := "frontNames", inPlace := ["internal/bytealg.IndexByte"], apart := false, narrowed := true }
def FrontNamesUptoSaid : Prop := frontNamesUptoRow.holds Try.pinned (OpenSpec.upto frontNamesSpec)

end Rows
end Go.Proofs.Ytlanididnlmnhaa
