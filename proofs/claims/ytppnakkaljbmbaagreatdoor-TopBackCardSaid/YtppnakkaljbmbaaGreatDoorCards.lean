/-
  DERIVED. GIVEN WITH THE SEED: THE CARDS: each row of YtppnakkaljbmbaaGreatDoorRows.lean that lists a variable, with what it lists TIED to the program's text (the seventh form; the later family's looks); each row that meets fmt, with fmt's text TOLD by the authors' own Lean function (tested against real Go, not proved from fmt's source: count such statements apart). THE CARD IS WHAT COUNTS. Prove the row's statement (the work); the ties are given (YtppnakkaljbmbaaGreatDoorTie.lean); close each card by the builder's one call (the guide's Derived/Test/ToyasCard.lean, 'card_holds'). Laid BY PROGRAM, IN A SANDBOX (cutbox-door.mjs). By AI agents, Wed Nov 11 2026. No macro, syntax, notation, axiom, sorry.
-/
import Derived.Test.YtppnakkaljbmbaaGreatDoorRows
import GoSem.ClaimSeven
namespace Go.Proofs.YtppnakkaljbmbaaGreatDoor
namespace Rows

/-- THE TIED CARD OF 'pressmarktop.TopBack'. -/
def topBackCard : Claim7 := { stood := { row := topBackRow, standIns := [], harness := (true, "b0efe09c56692b3ec3d6f81772cb88f1161014e308401e8e0f2f0e5b5b5f5e4b"), looks := true }, kinds := [], alts := [], laidByText := true, laidKinds := [.data, .data, .data, .data, .handle, .sentinel, .sentinel, .pinned], laidTests := true, laidLooks := .later }
def TopBackCardSaid : Prop := Claim7.holds Tryz.pinned (.plain (OpenSpec.ofChange topBackSpec)) topBackCard

/-- THE TIED CARD OF 'pressmarktop.TopMade'. -/
def topMadeCard : Claim7 := { stood := { row := topMadeRow, standIns := [], harness := (true, "b0efe09c56692b3ec3d6f81772cb88f1161014e308401e8e0f2f0e5b5b5f5e4b"), looks := true }, kinds := [], alts := [], laidByText := true, laidKinds := [.data, .data, .data, .data, .handle, .sentinel, .sentinel, .pinned], laidTests := true, laidLooks := .later }
def TopMadeCardSaid : Prop := Claim7.holds Tryz.pinned (.plain (OpenSpec.ofChange topMadeSpec)) topMadeCard

/-- THE TIED CARD OF 'pressmarktop.TopRead'. -/
def topReadCard : Claim7 := { stood := { row := topReadRow, standIns := [], harness := (true, "b0efe09c56692b3ec3d6f81772cb88f1161014e308401e8e0f2f0e5b5b5f5e4b"), looks := true }, kinds := [], alts := [], laidByText := true, laidKinds := [.data, .data, .data, .data, .handle, .sentinel, .sentinel, .pinned], laidTests := true, laidLooks := .later }
def TopReadCardSaid : Prop := Claim7.holds Tryz.pinned (.plain (OpenSpec.ofChange topReadSpec)) topReadCard

/-- THE TIED CARD OF 'pressmarktop.TopWorth'. -/
def topWorthCard : Claim7 := { stood := { row := topWorthRow, standIns := [], harness := (true, "b0efe09c56692b3ec3d6f81772cb88f1161014e308401e8e0f2f0e5b5b5f5e4b"), looks := true }, kinds := [], alts := [], laidByText := true, laidKinds := [.data, .data, .data, .data, .handle, .sentinel, .sentinel, .pinned], laidTests := true, laidLooks := .later }
def TopWorthCardSaid : Prop := Claim7.holds Tryz.pinned (.plain (OpenSpec.ofChange topWorthSpec)) topWorthCard

/-- THE SECOND FORM's CARD OF 'pressmarktop.TopBack'. -/
def topBackUptoCard : Claim7 := { stood := { row := topBackUptoRow, standIns := [], harness := (true, "b0efe09c56692b3ec3d6f81772cb88f1161014e308401e8e0f2f0e5b5b5f5e4b"), looks := true }, kinds := [], alts := [], laidByText := true, laidKinds := [.data, .data, .data, .data, .handle, .sentinel, .sentinel, .pinned], laidTests := true, laidLooks := .later }
def TopBackUptoCardSaid : Prop := Claim7.holds Tryz.pinned (.plain (OpenSpec.upto topBackSpec)) topBackUptoCard

/-- THE SECOND FORM's CARD OF 'pressmarktop.TopMade'. -/
def topMadeUptoCard : Claim7 := { stood := { row := topMadeUptoRow, standIns := [], harness := (true, "b0efe09c56692b3ec3d6f81772cb88f1161014e308401e8e0f2f0e5b5b5f5e4b"), looks := true }, kinds := [], alts := [], laidByText := true, laidKinds := [.data, .data, .data, .data, .handle, .sentinel, .sentinel, .pinned], laidTests := true, laidLooks := .later }
def TopMadeUptoCardSaid : Prop := Claim7.holds Tryz.pinned (.plain (OpenSpec.upto topMadeSpec)) topMadeUptoCard

/-- THE SECOND FORM's CARD OF 'pressmarktop.TopRead'. -/
def topReadUptoCard : Claim7 := { stood := { row := topReadUptoRow, standIns := [], harness := (true, "b0efe09c56692b3ec3d6f81772cb88f1161014e308401e8e0f2f0e5b5b5f5e4b"), looks := true }, kinds := [], alts := [], laidByText := true, laidKinds := [.data, .data, .data, .data, .handle, .sentinel, .sentinel, .pinned], laidTests := true, laidLooks := .later }
def TopReadUptoCardSaid : Prop := Claim7.holds Tryz.pinned (.plain (OpenSpec.upto topReadSpec)) topReadUptoCard

/-- THE SECOND FORM's CARD OF 'pressmarktop.TopWorth'. -/
def topWorthUptoCard : Claim7 := { stood := { row := topWorthUptoRow, standIns := [], harness := (true, "b0efe09c56692b3ec3d6f81772cb88f1161014e308401e8e0f2f0e5b5b5f5e4b"), looks := true }, kinds := [], alts := [], laidByText := true, laidKinds := [.data, .data, .data, .data, .handle, .sentinel, .sentinel, .pinned], laidTests := true, laidLooks := .later }
def TopWorthUptoCardSaid : Prop := Claim7.holds Tryz.pinned (.plain (OpenSpec.upto topWorthSpec)) topWorthUptoCard
end Rows
end Go.Proofs.YtppnakkaljbmbaaGreatDoor
