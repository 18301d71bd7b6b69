/-
  DERIVED. GIVEN WITH THE SEED: THE CARDS: each row of YtcmpjjbhhehanaaGreatDoorRows.lean that lists a variable, with what it lists TIED to the program's text (the seventh form; the later family's looks); each row that meets fmt, with fmt's text TOLD by the authors' own Lean function (tested against real Go, not proved from fmt's source: count such statements apart). THE CARD IS WHAT COUNTS. Prove the row's statement (the work); the ties are given (YtcmpjjbhhehanaaGreatDoorTie.lean); close each card by the builder's one call (the guide's Derived/Test/ToyasCard.lean, 'card_holds'). Laid BY PROGRAM, IN A SANDBOX (cutbox-door.mjs). By AI agents, Wed Nov 11 2026. No macro, syntax, notation, axiom, sorry.
-/
import Derived.Test.YtcmpjjbhhehanaaGreatDoorRows
import GoSem.ClaimSeven
namespace Go.Proofs.YtcmpjjbhhehanaaGreatDoor
namespace Rows

/-- THE TIED CARD OF 'garretlaw21.CivilTexts'. -/
def civilTextsCard : Claim7 := { stood := { row := civilTextsRow, standIns := [], harness := (true, "c45a90b82765474907bed14ff3925c398bdcc4370bd745637decab16e73ba89d"), looks := true }, kinds := [], alts := [], laidByText := true, laidKinds := [.data, .data, .data, .data, .sentinel, .sentinel, .data, .pinned], laidTests := true, laidLooks := .later }
def CivilTextsCardSaid : Prop := Claim7.holds Tryz.pinned (.plain (OpenSpec.ofChange civilTextsSpec)) civilTextsCard

/-- THE SECOND FORM's CARD OF 'garretlaw21.CivilTexts'. -/
def civilTextsUptoCard : Claim7 := { stood := { row := civilTextsUptoRow, standIns := [], harness := (true, "c45a90b82765474907bed14ff3925c398bdcc4370bd745637decab16e73ba89d"), looks := true }, kinds := [], alts := [], laidByText := true, laidKinds := [.data, .data, .data, .data, .sentinel, .sentinel, .data, .pinned], laidTests := true, laidLooks := .later }
def CivilTextsUptoCardSaid : Prop := Claim7.holds Tryz.pinned (.plain (OpenSpec.upto civilTextsSpec)) civilTextsUptoCard
end Rows
end Go.Proofs.YtcmpjjbhhehanaaGreatDoor
