/-
  DERIVED. GIVEN WITH THE SEED: THE CARDS: each row of Qxb6500568aGreatDoorRows.lean that lists a variable, with what it lists TIED to the program's text (the seventh form; the later family's looks); each row that meets fmt, with fmt's text TOLD by the authors' own Lean function (tested against real Go, not proved from fmt's source: count such statements apart). THE CARD IS WHAT COUNTS. Prove the row's statement (the work); the ties are given (Qxb6500568aGreatDoorTie.lean); close each card by the builder's one call (the guide's Derived/Test/ToyasCard.lean, 'card_holds'). Laid BY PROGRAM, IN A SANDBOX (cutbox-door.mjs). By AI agents, Wed Nov 11 2026. No macro, syntax, notation, axiom, sorry.
-/
import Derived.Test.Qxb6500568aGreatDoorRows
import GoSem.ClaimSeven
namespace Go.Proofs.Qxb6500568aGreatDoor
namespace Rows

/-- THE TIED CARD OF 'towerexact.Raw'. -/
def rawCard : Claim7 := { stood := { row := rawRow, standIns := [], harness := (true, "104c980cc0984bd7994bcaaf498c3c8a88651cd91091b94e2c8876e6cf6cc181"), looks := true }, kinds := [], alts := [], laidByText := true, laidKinds := [.data, .data, .data], laidTests := true, laidLooks := .later }
def RawCardSaid : Prop := Claim7.holds Tryz.pinned (.plain (OpenSpec.ofChange rawSpec)) rawCard

/-- THE TIED CARD OF 'towerexact.Exact'. -/
def exactCard : Claim7 := { stood := { row := exactRow, standIns := [], harness := (true, "104c980cc0984bd7994bcaaf498c3c8a88651cd91091b94e2c8876e6cf6cc181"), looks := true }, kinds := [], alts := [], laidByText := true, laidKinds := [.data, .data, .data], laidTests := true, laidLooks := .later }
def ExactCardSaid : Prop := Claim7.holds Tryz.pinned (.plain (OpenSpec.ofChange exactSpec)) exactCard
end Rows
end Go.Proofs.Qxb6500568aGreatDoor
