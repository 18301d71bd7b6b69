/-
  DERIVED. GIVEN WITH THE SEED: THE CARDS: each row of YtfhipccjnmfefaaDoorRows.lean that lists a variable, with what it lists TIED to the program's text (the seventh form; the later family's looks); each row that meets fmt, with fmt's text TOLD by the authors' own Lean function (tested against real Go, not proved from fmt's source: count such statements apart). THE CARD IS WHAT COUNTS. Prove the row's statement (the work); the ties are given (YtfhipccjnmfefaaDoorTie.lean); close each card by the builder's one call (the guide's Derived/Test/ToyasCard.lean, 'card_holds'). Laid BY PROGRAM, IN A SANDBOX (cutbox-door.mjs). By AI agents, Wed Nov 11 2026. No macro, syntax, notation, axiom, sorry.
-/
import Derived.Test.YtfhipccjnmfefaaDoorRows
import GoSem.ClaimSeven
namespace Go.Proofs.YtfhipccjnmfefaaDoor
namespace Rows

/-- THE TIED CARD OF 'garretlaw11.GearSame'. -/
def gearSameCard : Claim7 := { stood := { row := gearSameRow, standIns := [], harness := (true, "fc0a7b8203337d0ad48778c7b1fc114e8cd983901e3fd74fa736711e7b0fa680"), looks := false }, kinds := [], alts := [], laidByText := true, laidKinds := [.data], laidTests := true, laidLooks := .later }
def GearSameCardSaid : Prop := Claim7.holds Tryd.pinned (.plain (OpenSpec.ofChange gearSameSpec)) gearSameCard

/-- THE TIED CARD OF 'garretlaw11.GearOwn'. -/
def gearOwnCard : Claim7 := { stood := { row := gearOwnRow, standIns := [], harness := (true, "fc0a7b8203337d0ad48778c7b1fc114e8cd983901e3fd74fa736711e7b0fa680"), looks := false }, kinds := [], alts := [], laidByText := true, laidKinds := [.data], laidTests := true, laidLooks := .later }
def GearOwnCardSaid : Prop := Claim7.holds Tryd.pinned (.plain (OpenSpec.ofChange gearOwnSpec)) gearOwnCard

/-- THE TIED CARD OF 'garretlaw11.GearCuts'. -/
def gearCutsCard : Claim7 := { stood := { row := gearCutsRow, standIns := [], harness := (true, "fc0a7b8203337d0ad48778c7b1fc114e8cd983901e3fd74fa736711e7b0fa680"), looks := false }, kinds := [], alts := [], laidByText := true, laidKinds := [.data], laidTests := true, laidLooks := .later }
def GearCutsCardSaid : Prop := Claim7.holds Tryd.pinned (.plain (OpenSpec.ofChange gearCutsSpec)) gearCutsCard

/-- THE TIED CARD OF 'garretlaw11.GearParts'. -/
def gearPartsCard : Claim7 := { stood := { row := gearPartsRow, standIns := [], harness := (true, "fc0a7b8203337d0ad48778c7b1fc114e8cd983901e3fd74fa736711e7b0fa680"), looks := false }, kinds := [], alts := [], laidByText := true, laidKinds := [.data], laidTests := true, laidLooks := .later }
def GearPartsCardSaid : Prop := Claim7.holds Tryd.pinned (.plain (OpenSpec.ofChange gearPartsSpec)) gearPartsCard

/-- THE SECOND FORM's CARD OF 'garretlaw11.GearSame'. -/
def gearSameUptoCard : Claim7 := { stood := { row := gearSameUptoRow, standIns := [], harness := (true, "fc0a7b8203337d0ad48778c7b1fc114e8cd983901e3fd74fa736711e7b0fa680"), looks := false }, kinds := [], alts := [], laidByText := true, laidKinds := [.data], laidTests := true, laidLooks := .later }
def GearSameUptoCardSaid : Prop := Claim7.holds Tryd.pinned (.plain (OpenSpec.upto gearSameSpec)) gearSameUptoCard

/-- THE SECOND FORM's CARD OF 'garretlaw11.GearOwn'. -/
def gearOwnUptoCard : Claim7 := { stood := { row := gearOwnUptoRow, standIns := [], harness := (true, "fc0a7b8203337d0ad48778c7b1fc114e8cd983901e3fd74fa736711e7b0fa680"), looks := false }, kinds := [], alts := [], laidByText := true, laidKinds := [.data], laidTests := true, laidLooks := .later }
def GearOwnUptoCardSaid : Prop := Claim7.holds Tryd.pinned (.plain (OpenSpec.upto gearOwnSpec)) gearOwnUptoCard

/-- THE SECOND FORM's CARD OF 'garretlaw11.GearCuts'. -/
def gearCutsUptoCard : Claim7 := { stood := { row := gearCutsUptoRow, standIns := [], harness := (true, "fc0a7b8203337d0ad48778c7b1fc114e8cd983901e3fd74fa736711e7b0fa680"), looks := false }, kinds := [], alts := [], laidByText := true, laidKinds := [.data], laidTests := true, laidLooks := .later }
def GearCutsUptoCardSaid : Prop := Claim7.holds Tryd.pinned (.plain (OpenSpec.upto gearCutsSpec)) gearCutsUptoCard

/-- THE SECOND FORM's CARD OF 'garretlaw11.GearParts'. -/
def gearPartsUptoCard : Claim7 := { stood := { row := gearPartsUptoRow, standIns := [], harness := (true, "fc0a7b8203337d0ad48778c7b1fc114e8cd983901e3fd74fa736711e7b0fa680"), looks := false }, kinds := [], alts := [], laidByText := true, laidKinds := [.data], laidTests := true, laidLooks := .later }
def GearPartsUptoCardSaid : Prop := Claim7.holds Tryd.pinned (.plain (OpenSpec.upto gearPartsSpec)) gearPartsUptoCard
end Rows
end Go.Proofs.YtfhipccjnmfefaaDoor
