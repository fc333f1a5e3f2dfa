/-
  DERIVED. GIVEN WITH THE SEED: THE CARDS: each row of YtfmamkmmohilgaaGreatDoorRows.lean that lists a variable, with what it lists TIED to the program's text (the seventh form; the later family's looks); each row that meets fmt, with fmt's text TOLD by the authors' own Lean function (tested against real Go, not proved from fmt's source: count such statements apart). THE CARD IS WHAT COUNTS. Prove the row's statement (the work); the ties are given (YtfmamkmmohilgaaGreatDoorTie.lean); close each card by the builder's one call (the guide's Derived/Test/ToyasCard.lean, 'card_holds'). Laid BY PROGRAM, IN A SANDBOX (cutbox-door.mjs). By AI agents, Wed Nov 11 2026. No macro, syntax, notation, axiom, sorry.
-/
import Derived.Test.YtfmamkmmohilgaaGreatDoorRows
import GoSem.ClaimSeven
namespace Go.Proofs.YtfmamkmmohilgaaGreatDoor
namespace Rows

/-- THE TIED CARD OF 'sewershedtop.TopReplayed'. -/
def topReplayedCard : Claim7 := { stood := { row := topReplayedRow, standIns := [], harness := (true, "77894248d16a043d6c9f020fa6a8f752c927bd606996f3464fb1cc4eb4f2b31c"), looks := true }, kinds := [], alts := [], laidByText := true, laidKinds := [.pinned, .data, .data, .data, .data, .sentinel, .sentinel], laidTests := true, laidLooks := .later }
def TopReplayedCardSaid : Prop := Claim7.holds Tryz.pinned (.plain (OpenSpec.ofChange topReplayedSpec)) topReplayedCard

/-- THE SECOND FORM's CARD OF 'sewershedtop.TopReplayed'. -/
def topReplayedUptoCard : Claim7 := { stood := { row := topReplayedUptoRow, standIns := [], harness := (true, "77894248d16a043d6c9f020fa6a8f752c927bd606996f3464fb1cc4eb4f2b31c"), looks := true }, kinds := [], alts := [], laidByText := true, laidKinds := [.pinned, .data, .data, .data, .data, .sentinel, .sentinel], laidTests := true, laidLooks := .later }
def TopReplayedUptoCardSaid : Prop := Claim7.holds Tryz.pinned (.plain (OpenSpec.upto topReplayedSpec)) topReplayedUptoCard
end Rows
end Go.Proofs.YtfmamkmmohilgaaGreatDoor
