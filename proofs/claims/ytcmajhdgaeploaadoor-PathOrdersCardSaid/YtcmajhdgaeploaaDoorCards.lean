/-
  DERIVED. GIVEN WITH THE SEED: THE CARDS: each row of YtcmajhdgaeploaaDoorRows.lean that lists a variable, with what it lists TIED to the program's text (the seventh form; the later family's looks); each row that meets fmt, with fmt's text TOLD by the authors' own Lean function (tested against real Go, not proved from fmt's source: count such statements apart). THE CARD IS WHAT COUNTS. Prove the row's statement (the work); the ties are given (YtcmajhdgaeploaaDoorTie.lean); close each card by the builder's one call (the guide's Derived/Test/ToyasCard.lean, 'card_holds'). Laid BY PROGRAM, IN A SANDBOX (cutbox-door.mjs). By AI agents, Wed Nov 11 2026. No macro, syntax, notation, axiom, sorry.
-/
import Derived.Test.YtcmajhdgaeploaaDoorRows
import GoSem.ClaimSeven
namespace Go.Proofs.YtcmajhdgaeploaaDoor
namespace Rows

/-- THE TIED CARD OF 'garretlaw21.CivilNext'. -/
def civilNextCard : Claim7 := { stood := { row := civilNextRow, standIns := [], harness := (true, "eec9be92414e27734fedf0ce156f8e72289367c143aa54570ce95e53a312f68a"), looks := true }, kinds := [], alts := [], laidByText := true, laidKinds := [.data, .data, .data, .data], laidTests := true, laidLooks := .later }
def CivilNextCardSaid : Prop := Claim7.holds Tryd.pinned (.plain (OpenSpec.ofChange civilNextSpec)) civilNextCard

/-- THE TIED CARD OF 'garretlaw21.CivilYears'. -/
def civilYearsCard : Claim7 := { stood := { row := civilYearsRow, standIns := [], harness := (true, "eec9be92414e27734fedf0ce156f8e72289367c143aa54570ce95e53a312f68a"), looks := true }, kinds := [], alts := [], laidByText := true, laidKinds := [.data, .data, .data, .data], laidTests := true, laidLooks := .later }
def CivilYearsCardSaid : Prop := Claim7.holds Tryd.pinned (.plain (OpenSpec.ofChange civilYearsSpec)) civilYearsCard

/-- THE TIED CARD OF 'garretlaw17.PathOne'. -/
def pathOneCard : Claim7 := { stood := { row := pathOneRow, standIns := [], harness := (true, "eec9be92414e27734fedf0ce156f8e72289367c143aa54570ce95e53a312f68a"), looks := true }, kinds := [], alts := [], laidByText := true, laidKinds := [.data, .pinned], laidTests := true, laidLooks := .later }
def PathOneCardSaid : Prop := Claim7.holds Tryd.pinned (.plain (OpenSpec.ofChange pathOneSpec)) pathOneCard

/-- THE TIED CARD OF 'garretlaw21.CivilKeys'. -/
def civilKeysCard : Claim7 := { stood := { row := civilKeysRow, standIns := [], harness := (true, "eec9be92414e27734fedf0ce156f8e72289367c143aa54570ce95e53a312f68a"), looks := true }, kinds := [], alts := [], laidByText := true, laidKinds := [.data, .data, .data, .data], laidTests := true, laidLooks := .later }
def CivilKeysCardSaid : Prop := Claim7.holds Tryd.pinned (.plain (OpenSpec.ofChange civilKeysSpec)) civilKeysCard

/-- THE TIED CARD OF 'garretlaw21.CivilReckons'. -/
def civilReckonsCard : Claim7 := { stood := { row := civilReckonsRow, standIns := [], harness := (true, "eec9be92414e27734fedf0ce156f8e72289367c143aa54570ce95e53a312f68a"), looks := true }, kinds := [], alts := [], laidByText := true, laidKinds := [.data, .data, .data, .data], laidTests := true, laidLooks := .later }
def CivilReckonsCardSaid : Prop := Claim7.holds Tryd.pinned (.plain (OpenSpec.ofChange civilReckonsSpec)) civilReckonsCard

/-- THE TIED CARD OF 'garretlaw17.PathOrders'. -/
def pathOrdersCard : Claim7 := { stood := { row := pathOrdersRow, standIns := [], harness := (true, "eec9be92414e27734fedf0ce156f8e72289367c143aa54570ce95e53a312f68a"), looks := true }, kinds := [], alts := [], laidByText := true, laidKinds := [.data, .pinned], laidTests := true, laidLooks := .later }
def PathOrdersCardSaid : Prop := Claim7.holds Tryd.pinned (.plain (OpenSpec.ofChange pathOrdersSpec)) pathOrdersCard

/-- THE TIED CARD OF 'garretlaw17.PathTogether'. -/
def pathTogetherCard : Claim7 := { stood := { row := pathTogetherRow, standIns := [], harness := (true, "eec9be92414e27734fedf0ce156f8e72289367c143aa54570ce95e53a312f68a"), looks := true }, kinds := [], alts := [], laidByText := true, laidKinds := [.data, .pinned], laidTests := true, laidLooks := .later }
def PathTogetherCardSaid : Prop := Claim7.holds Tryd.pinned (.plain (OpenSpec.ofChange pathTogetherSpec)) pathTogetherCard

/-- THE TIED CARD OF 'garretlaw17.PathSplits'. -/
def pathSplitsCard : Claim7 := { stood := { row := pathSplitsRow, standIns := [], harness := (true, "eec9be92414e27734fedf0ce156f8e72289367c143aa54570ce95e53a312f68a"), looks := true }, kinds := [], alts := [], laidByText := true, laidKinds := [.data, .pinned], laidTests := true, laidLooks := .later }
def PathSplitsCardSaid : Prop := Claim7.holds Tryd.pinned (.plain (OpenSpec.ofChange pathSplitsSpec)) pathSplitsCard

/-- THE TIED CARD OF 'garretlaw17.PathBack'. -/
def pathBackCard : Claim7 := { stood := { row := pathBackRow, standIns := [], harness := (true, "eec9be92414e27734fedf0ce156f8e72289367c143aa54570ce95e53a312f68a"), looks := true }, kinds := [], alts := [], laidByText := true, laidKinds := [.data, .pinned], laidTests := true, laidLooks := .later }
def PathBackCardSaid : Prop := Claim7.holds Tryd.pinned (.plain (OpenSpec.ofChange pathBackSpec)) pathBackCard

/-- THE TIED CARD OF 'garretlaw21.CivilBack'. -/
def civilBackCard : Claim7 := { stood := { row := civilBackRow, standIns := [], harness := (true, "eec9be92414e27734fedf0ce156f8e72289367c143aa54570ce95e53a312f68a"), looks := true }, kinds := [], alts := [], laidByText := true, laidKinds := [.data, .data, .data, .data, .sentinel, .sentinel, .data, .pinned], laidTests := true, laidLooks := .later }
def CivilBackCardSaid : Prop := Claim7.holds Tryd.pinned (.plain (OpenSpec.ofChange civilBackSpec)) civilBackCard

/-- THE SECOND FORM's CARD OF 'garretlaw21.CivilNext'. -/
def civilNextUptoCard : Claim7 := { stood := { row := civilNextUptoRow, standIns := [], harness := (true, "eec9be92414e27734fedf0ce156f8e72289367c143aa54570ce95e53a312f68a"), looks := true }, kinds := [], alts := [], laidByText := true, laidKinds := [.data, .data, .data, .data], laidTests := true, laidLooks := .later }
def CivilNextUptoCardSaid : Prop := Claim7.holds Tryd.pinned (.plain (OpenSpec.upto civilNextSpec)) civilNextUptoCard

/-- THE SECOND FORM's CARD OF 'garretlaw21.CivilYears'. -/
def civilYearsUptoCard : Claim7 := { stood := { row := civilYearsUptoRow, standIns := [], harness := (true, "eec9be92414e27734fedf0ce156f8e72289367c143aa54570ce95e53a312f68a"), looks := true }, kinds := [], alts := [], laidByText := true, laidKinds := [.data, .data, .data, .data], laidTests := true, laidLooks := .later }
def CivilYearsUptoCardSaid : Prop := Claim7.holds Tryd.pinned (.plain (OpenSpec.upto civilYearsSpec)) civilYearsUptoCard

/-- THE SECOND FORM's CARD OF 'garretlaw17.PathOne'. -/
def pathOneUptoCard : Claim7 := { stood := { row := pathOneUptoRow, standIns := [], harness := (true, "eec9be92414e27734fedf0ce156f8e72289367c143aa54570ce95e53a312f68a"), looks := true }, kinds := [], alts := [], laidByText := true, laidKinds := [.data, .pinned], laidTests := true, laidLooks := .later }
def PathOneUptoCardSaid : Prop := Claim7.holds Tryd.pinned (.plain (OpenSpec.upto pathOneSpec)) pathOneUptoCard

/-- THE SECOND FORM's CARD OF 'garretlaw21.CivilKeys'. -/
def civilKeysUptoCard : Claim7 := { stood := { row := civilKeysUptoRow, standIns := [], harness := (true, "eec9be92414e27734fedf0ce156f8e72289367c143aa54570ce95e53a312f68a"), looks := true }, kinds := [], alts := [], laidByText := true, laidKinds := [.data, .data, .data, .data], laidTests := true, laidLooks := .later }
def CivilKeysUptoCardSaid : Prop := Claim7.holds Tryd.pinned (.plain (OpenSpec.upto civilKeysSpec)) civilKeysUptoCard

/-- THE SECOND FORM's CARD OF 'garretlaw21.CivilReckons'. -/
def civilReckonsUptoCard : Claim7 := { stood := { row := civilReckonsUptoRow, standIns := [], harness := (true, "eec9be92414e27734fedf0ce156f8e72289367c143aa54570ce95e53a312f68a"), looks := true }, kinds := [], alts := [], laidByText := true, laidKinds := [.data, .data, .data, .data], laidTests := true, laidLooks := .later }
def CivilReckonsUptoCardSaid : Prop := Claim7.holds Tryd.pinned (.plain (OpenSpec.upto civilReckonsSpec)) civilReckonsUptoCard

/-- THE SECOND FORM's CARD OF 'garretlaw17.PathOrders'. -/
def pathOrdersUptoCard : Claim7 := { stood := { row := pathOrdersUptoRow, standIns := [], harness := (true, "eec9be92414e27734fedf0ce156f8e72289367c143aa54570ce95e53a312f68a"), looks := true }, kinds := [], alts := [], laidByText := true, laidKinds := [.data, .pinned], laidTests := true, laidLooks := .later }
def PathOrdersUptoCardSaid : Prop := Claim7.holds Tryd.pinned (.plain (OpenSpec.upto pathOrdersSpec)) pathOrdersUptoCard

/-- THE SECOND FORM's CARD OF 'garretlaw17.PathTogether'. -/
def pathTogetherUptoCard : Claim7 := { stood := { row := pathTogetherUptoRow, standIns := [], harness := (true, "eec9be92414e27734fedf0ce156f8e72289367c143aa54570ce95e53a312f68a"), looks := true }, kinds := [], alts := [], laidByText := true, laidKinds := [.data, .pinned], laidTests := true, laidLooks := .later }
def PathTogetherUptoCardSaid : Prop := Claim7.holds Tryd.pinned (.plain (OpenSpec.upto pathTogetherSpec)) pathTogetherUptoCard

/-- THE SECOND FORM's CARD OF 'garretlaw17.PathSplits'. -/
def pathSplitsUptoCard : Claim7 := { stood := { row := pathSplitsUptoRow, standIns := [], harness := (true, "eec9be92414e27734fedf0ce156f8e72289367c143aa54570ce95e53a312f68a"), looks := true }, kinds := [], alts := [], laidByText := true, laidKinds := [.data, .pinned], laidTests := true, laidLooks := .later }
def PathSplitsUptoCardSaid : Prop := Claim7.holds Tryd.pinned (.plain (OpenSpec.upto pathSplitsSpec)) pathSplitsUptoCard

/-- THE SECOND FORM's CARD OF 'garretlaw17.PathBack'. -/
def pathBackUptoCard : Claim7 := { stood := { row := pathBackUptoRow, standIns := [], harness := (true, "eec9be92414e27734fedf0ce156f8e72289367c143aa54570ce95e53a312f68a"), looks := true }, kinds := [], alts := [], laidByText := true, laidKinds := [.data, .pinned], laidTests := true, laidLooks := .later }
def PathBackUptoCardSaid : Prop := Claim7.holds Tryd.pinned (.plain (OpenSpec.upto pathBackSpec)) pathBackUptoCard

/-- THE SECOND FORM's CARD OF 'garretlaw21.CivilBack'. -/
def civilBackUptoCard : Claim7 := { stood := { row := civilBackUptoRow, standIns := [], harness := (true, "eec9be92414e27734fedf0ce156f8e72289367c143aa54570ce95e53a312f68a"), looks := true }, kinds := [], alts := [], laidByText := true, laidKinds := [.data, .data, .data, .data, .sentinel, .sentinel, .data, .pinned], laidTests := true, laidLooks := .later }
def CivilBackUptoCardSaid : Prop := Claim7.holds Tryd.pinned (.plain (OpenSpec.upto civilBackSpec)) civilBackUptoCard
end Rows
end Go.Proofs.YtcmajhdgaeploaaDoor
