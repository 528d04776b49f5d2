/-
  No cell of these rows narrows 'for every input' (looked for: loops, veiled, ifaces, maps, wideKeys, modest, calm, conditions, laid).
  DERIVED. THE GIVEN ROWS OF THIS SEAT. 4 by the template 'for every input the law returns true; each argument reads behind the call as it read before'; 0 by the template 'total and deterministic' (their statements: YthdpcjahficlnaaTotals.lean).
  GIVEN WITH THE SEED: the statements are not yours to turn. If you find one false, say at which input.
  Laid BY PROGRAM, IN A SANDBOX (cutbox-rows.mjs): the forced cells as the released guide's own fill.sh prints them over the translation fba866edb87c1bea… (all of the seat's roots in one cut). By AI agents, Wed Nov 11 2026. No macro, syntax, notation, axiom, sorry.
-/
import Derived.Test.YthdpcjahficlnaaChecked
import GoSem.Claim
import GoSem.ClaimJoined
import GoSem.ClaimMapViews
import Derived.JoinedTies
import Derived.KernelRfl
namespace Go.Proofs.Ythdpcjahficlnaa
/- THE CELL 'sum', in the pinned program and in every row, IS THE sha256 OF THE DUMP (.gsa) THAT YthdpcjahficlnaaProg.lean LOADS. Nothing in Lean hashes anything: it is a label: what it is worth is what the hold of that sum in a sandbox is worth. -/
noncomputable def Try.pinned : Pinned := { name := "ythdpcjahficlnaa", sum := "fba866edb87c1beaebe210078cf404a7b43574a053d8ef6bfa15c5e6dcf33a73", checked := Try.checked }
namespace Rows
def none {H : Type} : Left H := { results := [], args := [] }

/-- 'pressmarklaw04.RleBack': WHATEVER THE INPUT: true; the input reads as it did. -/
def rleBackSpec : ChangeSpec := { name := "rleBack", fn := fun _ => fun
  | [d1, d2, d3] => { results := [.lit (.bool true)], args := [d1, d2, d3] }
  | _ => none }
def rleBackRow : OpenClaim := { program := "ythdpcjahficlnaa", sum := "fba866edb87c1beaebe210078cf404a7b43574a053d8ef6bfa15c5e6dcf33a73", func := "pressmark/pressmarklaw04.RleBack", spec := "rleBack", inPlace := ["internal/abi.NoEscape"], unfollowed := true, recurses := true, apart := false }
def RleBackSaid : Prop := rleBackRow.holds Try.pinned (OpenSpec.ofChange rleBackSpec)

/-- ITS FALSE NEIGHBOUR: 'it returns false'. Refute it at one input. -/
def rleBackWrong : ChangeSpec := { name := "rleBack", fn := fun _ => fun
  | [d1, d2, d3] => { results := [.lit (.bool false)], args := [d1, d2, d3] }
  | _ => none }
def RleBackWrongFalsely : Prop := rleBackRow.holds Try.pinned (OpenSpec.ofChange rleBackWrong)

/-- 'pressmarklaw04.RleLong': WHATEVER THE INPUT: true; the input reads as it did. -/
def rleLongSpec : ChangeSpec := { name := "rleLong", fn := fun _ => fun
  | [d1, d2] => { results := [.lit (.bool true)], args := [d1, d2] }
  | _ => none }
def rleLongRow : OpenClaim := { program := "ythdpcjahficlnaa", sum := "fba866edb87c1beaebe210078cf404a7b43574a053d8ef6bfa15c5e6dcf33a73", func := "pressmark/pressmarklaw04.RleLong", spec := "rleLong", inPlace := ["internal/abi.NoEscape"], unfollowed := true, recurses := true, apart := false }
def RleLongSaid : Prop := rleLongRow.holds Try.pinned (OpenSpec.ofChange rleLongSpec)

/-- ITS FALSE NEIGHBOUR: 'it returns false'. Refute it at one input. -/
def rleLongWrong : ChangeSpec := { name := "rleLong", fn := fun _ => fun
  | [d1, d2] => { results := [.lit (.bool false)], args := [d1, d2] }
  | _ => none }
def RleLongWrongFalsely : Prop := rleLongRow.holds Try.pinned (OpenSpec.ofChange rleLongWrong)

/-- 'pressmarklaw04.RleCut': WHATEVER THE INPUT: true; the input reads as it did. -/
def rleCutSpec : ChangeSpec := { name := "rleCut", fn := fun _ => fun
  | [d1, d2] => { results := [.lit (.bool true)], args := [d1, d2] }
  | _ => none }
def rleCutRow : OpenClaim := { program := "ythdpcjahficlnaa", sum := "fba866edb87c1beaebe210078cf404a7b43574a053d8ef6bfa15c5e6dcf33a73", func := "pressmark/pressmarklaw04.RleCut", spec := "rleCut", inPlace := ["internal/abi.NoEscape"], unfollowed := true, recurses := true, apart := false }
def RleCutSaid : Prop := rleCutRow.holds Try.pinned (OpenSpec.ofChange rleCutSpec)

/-- ITS FALSE NEIGHBOUR: 'it returns false'. Refute it at one input. -/
def rleCutWrong : ChangeSpec := { name := "rleCut", fn := fun _ => fun
  | [d1, d2] => { results := [.lit (.bool false)], args := [d1, d2] }
  | _ => none }
def RleCutWrongFalsely : Prop := rleCutRow.holds Try.pinned (OpenSpec.ofChange rleCutWrong)

/-- 'pressmarklaw04.RleOne': WHATEVER THE INPUT: true; the input reads as it did. -/
def rleOneSpec : ChangeSpec := { name := "rleOne", fn := fun _ => fun
  | [d1, d2] => { results := [.lit (.bool true)], args := [d1, d2] }
  | _ => none }
def rleOneRow : OpenClaim := { program := "ythdpcjahficlnaa", sum := "fba866edb87c1beaebe210078cf404a7b43574a053d8ef6bfa15c5e6dcf33a73", func := "pressmark/pressmarklaw04.RleOne", spec := "rleOne", inPlace := ["internal/abi.NoEscape"], unfollowed := true, recurses := true, apart := false }
def RleOneSaid : Prop := rleOneRow.holds Try.pinned (OpenSpec.ofChange rleOneSpec)

/-- ITS FALSE NEIGHBOUR: 'it returns false'. Refute it at one input. -/
def rleOneWrong : ChangeSpec := { name := "rleOne", fn := fun _ => fun
  | [d1, d2] => { results := [.lit (.bool false)], args := [d1, d2] }
  | _ => none }
def RleOneWrongFalsely : Prop := rleOneRow.holds Try.pinned (OpenSpec.ofChange rleOneWrong)

/- THE SECOND FORM. 'bulk': how many values and letters a reading holds, each counted each time it is reached (what is shared counts as often as it is met; a slice's spare places count too). A statement '..UptoSaid' is the law's where the arguments, and the package variables that the reading takes, are together of bulk at most 1048576: NARROWER than '..Said'. Prove '..Said' where nothing that the law and all that it calls make is longer than what came in: it says more and counts as full. Else prove '..UptoSaid'. A law counts once. -/
mutual
def uptoBulk {H : Type} : DataW H → Nat
  | .lit (.string bytes) => bytes.length + 1
  | .lit _ => 1
  | .nil => 1
  | .ptr d => uptoBulk d + 1
  | .slice elems spare => uptoBulkAll elems + uptoBulkAll spare + 1
  | .agg parts => uptoBulkAll parts + 1
  | .iface _ d => uptoBulk d + 1
  | .map entries => uptoBulkEntries entries + 1
  | .held _ => 1
def uptoBulkAll {H : Type} : List (DataW H) → Nat
  | [] => 0
  | d :: r => uptoBulk d + uptoBulkAll r
def uptoBulkEntries {H : Type} : List (Lit × DataW H) → Nat
  | [] => 0
  | x :: r => uptoBulkEntry x + uptoBulkEntries r
def uptoBulkEntry {H : Type} : Lit × DataW H → Nat
  | (.string bytes, d) => bytes.length + uptoBulk d + 1
  | (_, d) => uptoBulk d + 1
 end
def uptoSmall : (H : Type) → List (DataW H) → Bool := fun _ ds => decide (uptoBulkAll ds ≤ 1048576)
def OpenSpec.upto (s : _root_.Go.ChangeSpec) : _root_.Go.OpenSpec := { _root_.Go.OpenSpec.ofChange s with cond := some uptoSmall }

/-- 'pressmarklaw04.RleBack', WHERE WHAT IT READS IS OF BULK AT MOST 1048576: true; the input reads as it did. -/
def rleBackUptoRow : OpenClaim := { program := "ythdpcjahficlnaa", sum := "fba866edb87c1beaebe210078cf404a7b43574a053d8ef6bfa15c5e6dcf33a73", func := "pressmark/pressmarklaw04.RleBack", spec := "rleBack", inPlace := ["internal/abi.NoEscape"], unfollowed := true, recurses := true, apart := false, narrowed := true }
def RleBackUptoSaid : Prop := rleBackUptoRow.holds Try.pinned (OpenSpec.upto rleBackSpec)

/-- 'pressmarklaw04.RleLong', WHERE WHAT IT READS IS OF BULK AT MOST 1048576: true; the input reads as it did. -/
def rleLongUptoRow : OpenClaim := { program := "ythdpcjahficlnaa", sum := "fba866edb87c1beaebe210078cf404a7b43574a053d8ef6bfa15c5e6dcf33a73", func := "pressmark/pressmarklaw04.RleLong", spec := "rleLong", inPlace := ["internal/abi.NoEscape"], unfollowed := true, recurses := true, apart := false, narrowed := true }
def RleLongUptoSaid : Prop := rleLongUptoRow.holds Try.pinned (OpenSpec.upto rleLongSpec)

/-- 'pressmarklaw04.RleCut', WHERE WHAT IT READS IS OF BULK AT MOST 1048576: true; the input reads as it did. -/
def rleCutUptoRow : OpenClaim := { program := "ythdpcjahficlnaa", sum := "fba866edb87c1beaebe210078cf404a7b43574a053d8ef6bfa15c5e6dcf33a73", func := "pressmark/pressmarklaw04.RleCut", spec := "rleCut", inPlace := ["internal/abi.NoEscape"], unfollowed := true, recurses := true, apart := false, narrowed := true }
def RleCutUptoSaid : Prop := rleCutUptoRow.holds Try.pinned (OpenSpec.upto rleCutSpec)

/-- 'pressmarklaw04.RleOne', WHERE WHAT IT READS IS OF BULK AT MOST 1048576: true; the input reads as it did. -/
def rleOneUptoRow : OpenClaim := { program := "ythdpcjahficlnaa", sum := "fba866edb87c1beaebe210078cf404a7b43574a053d8ef6bfa15c5e6dcf33a73", func := "pressmark/pressmarklaw04.RleOne", spec := "rleOne", inPlace := ["internal/abi.NoEscape"], unfollowed := true, recurses := true, apart := false, narrowed := true }
def RleOneUptoSaid : Prop := rleOneUptoRow.holds Try.pinned (OpenSpec.upto rleOneSpec)

end Rows
end Go.Proofs.Ythdpcjahficlnaa
