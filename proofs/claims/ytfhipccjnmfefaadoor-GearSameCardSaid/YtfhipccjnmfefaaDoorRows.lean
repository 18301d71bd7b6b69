/-
  NARROWER THAN 'FOR EVERY INPUT', by the rows' own cells (each row's printed sentence says how): GearSame: laid · GearOwn: laid · GearCuts: laid · GearParts: laid.
  DERIVED. THE GIVEN ROWS OF THIS SEAT. 4 by the template 'for every input the law returns true; each argument reads behind the call as it read before'; 0 by the template 'total and deterministic' (their statements: YtfhipccjnmfefaaDoorTotals.lean).
  GIVEN WITH THE SEED: the statements are not yours to turn. If you find one false, say at which input.
  Laid BY PROGRAM, IN A SANDBOX (cutbox-rows.mjs): the forced cells as the released guide's own fill.sh prints them over the translation 3de1b6067f064089… (all of the seat's roots in one cut). By AI agents, Wed Nov 11 2026. No macro, syntax, notation, axiom, sorry.
-/
import Derived.Test.YtfhipccjnmfefaaDoorChecked
import GoSem.Claim
import GoSem.ClaimJoined
import GoSem.ClaimMapViews
import Derived.JoinedTies
import Derived.KernelRfl
namespace Go.Proofs.YtfhipccjnmfefaaDoor
/- THE CELL 'sum', in the pinned program and in every row, IS THE sha256 OF THE DUMP (.gsa) THAT YtfhipccjnmfefaaDoorProg.lean LOADS. Nothing in Lean hashes anything: it is a label: what it is worth is what the hold of that sum in a sandbox is worth. -/
noncomputable def Tryd.pinned : Pinned := { name := "ytfhipccjnmfefaadoor", sum := "3de1b6067f064089e7835d375951fd40cd7cf6698697cf07d82caa32ea09b4b3", checked := Tryd.checked }
namespace Rows
def none {H : Type} : Left H := { results := [], args := [] }

/- WHAT THE LISTED PACKAGE-LEVEL VARIABLES READ AS WHEN THE CALL BEGINS. Each datum BY PROGRAM (the guide's laid-datum.mjs) off the statement by which the dump's own 'gosem.cut.vars' lays the variable. In a bare row this is a premise. The card (YtfhipccjnmfefaaDoorCards.lean) ties it to the program's text. -/
def laid_garret_gear_mixes {H : Type} : DataW H := .agg [.agg [.lit (.int .i64 31), .lit (.int .u64 13787848793156543929)], .agg [.lit (.int .i64 29), .lit (.int .u64 1)]]

/-- 'garretlaw11.GearSame': WHATEVER THE INPUT: true; the input reads as it did. -/
def gearSameSpec : ChangeSpec := { name := "gearSame", fn := fun _ => fun
  | [d1, d2, d3] => { results := [.lit (.bool true)], args := [d1, d2, d3] }
  | _ => none }
def gearSameRow : OpenClaim := { program := "ytfhipccjnmfefaadoor", sum := "3de1b6067f064089e7835d375951fd40cd7cf6698697cf07d82caa32ea09b4b3", func := "garret/garretlaw11.GearSame", spec := "gearSame", unfollowed := true, recurses := true, named := ["garret/gear.mixes"], apart := false, laid := [("garret/gear.mixes", laid_garret_gear_mixes)] }
def GearSameSaid : Prop := gearSameRow.holds Tryd.pinned (OpenSpec.ofChange gearSameSpec)

/-- ITS FALSE NEIGHBOUR: 'it returns false'. Refute it at one input. -/
def gearSameWrong : ChangeSpec := { name := "gearSame", fn := fun _ => fun
  | [d1, d2, d3] => { results := [.lit (.bool false)], args := [d1, d2, d3] }
  | _ => none }
def GearSameWrongFalsely : Prop := gearSameRow.holds Tryd.pinned (OpenSpec.ofChange gearSameWrong)

/-- 'garretlaw11.GearOwn': WHATEVER THE INPUT: true; the input reads as it did. -/
def gearOwnSpec : ChangeSpec := { name := "gearOwn", fn := fun _ => fun
  | [d1, d2, d3] => { results := [.lit (.bool true)], args := [d1, d2, d3] }
  | _ => none }
def gearOwnRow : OpenClaim := { program := "ytfhipccjnmfefaadoor", sum := "3de1b6067f064089e7835d375951fd40cd7cf6698697cf07d82caa32ea09b4b3", func := "garret/garretlaw11.GearOwn", spec := "gearOwn", unfollowed := true, recurses := true, named := ["garret/gear.mixes"], apart := false, laid := [("garret/gear.mixes", laid_garret_gear_mixes)] }
def GearOwnSaid : Prop := gearOwnRow.holds Tryd.pinned (OpenSpec.ofChange gearOwnSpec)

/-- ITS FALSE NEIGHBOUR: 'it returns false'. Refute it at one input. -/
def gearOwnWrong : ChangeSpec := { name := "gearOwn", fn := fun _ => fun
  | [d1, d2, d3] => { results := [.lit (.bool false)], args := [d1, d2, d3] }
  | _ => none }
def GearOwnWrongFalsely : Prop := gearOwnRow.holds Tryd.pinned (OpenSpec.ofChange gearOwnWrong)

/-- 'garretlaw11.GearCuts': WHATEVER THE INPUT: true; the input reads as it did. -/
def gearCutsSpec : ChangeSpec := { name := "gearCuts", fn := fun _ => fun
  | [d1, d2, d3] => { results := [.lit (.bool true)], args := [d1, d2, d3] }
  | _ => none }
def gearCutsRow : OpenClaim := { program := "ytfhipccjnmfefaadoor", sum := "3de1b6067f064089e7835d375951fd40cd7cf6698697cf07d82caa32ea09b4b3", func := "garret/garretlaw11.GearCuts", spec := "gearCuts", unfollowed := true, recurses := true, named := ["garret/gear.mixes"], apart := false, laid := [("garret/gear.mixes", laid_garret_gear_mixes)] }
def GearCutsSaid : Prop := gearCutsRow.holds Tryd.pinned (OpenSpec.ofChange gearCutsSpec)

/-- ITS FALSE NEIGHBOUR: 'it returns false'. Refute it at one input. -/
def gearCutsWrong : ChangeSpec := { name := "gearCuts", fn := fun _ => fun
  | [d1, d2, d3] => { results := [.lit (.bool false)], args := [d1, d2, d3] }
  | _ => none }
def GearCutsWrongFalsely : Prop := gearCutsRow.holds Tryd.pinned (OpenSpec.ofChange gearCutsWrong)

/-- 'garretlaw11.GearParts': WHATEVER THE INPUT: true; the input reads as it did. -/
def gearPartsSpec : ChangeSpec := { name := "gearParts", fn := fun _ => fun
  | [d1, d2] => { results := [.lit (.bool true)], args := [d1, d2] }
  | _ => none }
def gearPartsRow : OpenClaim := { program := "ytfhipccjnmfefaadoor", sum := "3de1b6067f064089e7835d375951fd40cd7cf6698697cf07d82caa32ea09b4b3", func := "garret/garretlaw11.GearParts", spec := "gearParts", inPlace := ["internal/abi.NoEscape", "internal/bytealg.MakeNoZero"], unfollowed := true, recurses := true, named := ["garret/gear.mixes"], apart := false, laid := [("garret/gear.mixes", laid_garret_gear_mixes)] }
def GearPartsSaid : Prop := gearPartsRow.holds Tryd.pinned (OpenSpec.ofChange gearPartsSpec)

/-- ITS FALSE NEIGHBOUR: 'it returns false'. Refute it at one input. -/
def gearPartsWrong : ChangeSpec := { name := "gearParts", fn := fun _ => fun
  | [d1, d2] => { results := [.lit (.bool false)], args := [d1, d2] }
  | _ => none }
def GearPartsWrongFalsely : Prop := gearPartsRow.holds Tryd.pinned (OpenSpec.ofChange gearPartsWrong)

/- THE SECOND FORM. 'bulk': how many values and letters a reading holds, each counted each time it is reached (what is shared counts as often as it is met; a slice's spare places count too). A statement '..UptoSaid' is the law's where the arguments, and the package variables that the reading takes, are together of bulk at most 1048576: NARROWER than '..Said'. Prove '..Said' where nothing that the law and all that it calls make is longer than what came in: it says more and counts as full. Else prove '..UptoSaid'. A law counts once. -/
mutual
def uptoBulk {H : Type} : DataW H → Nat
  | .lit (.string bytes) => bytes.length + 1
  | .lit _ => 1
  | .nil => 1
  | .ptr d => uptoBulk d + 1
  | .slice elems spare => uptoBulkAll elems + uptoBulkAll spare + 1
  | .agg parts => uptoBulkAll parts + 1
  | .iface _ d => uptoBulk d + 1
  | .map entries => uptoBulkEntries entries + 1
  | .held _ => 1
def uptoBulkAll {H : Type} : List (DataW H) → Nat
  | [] => 0
  | d :: r => uptoBulk d + uptoBulkAll r
def uptoBulkEntries {H : Type} : List (Lit × DataW H) → Nat
  | [] => 0
  | x :: r => uptoBulkEntry x + uptoBulkEntries r
def uptoBulkEntry {H : Type} : Lit × DataW H → Nat
  | (.string bytes, d) => bytes.length + uptoBulk d + 1
  | (_, d) => uptoBulk d + 1
 end
def uptoSmall : (H : Type) → List (DataW H) → Bool := fun _ ds => decide (uptoBulkAll ds ≤ 1048576)
def OpenSpec.upto (s : _root_.Go.ChangeSpec) : _root_.Go.OpenSpec := { _root_.Go.OpenSpec.ofChange s with cond := some uptoSmall }

/-- 'garretlaw11.GearSame', WHERE WHAT IT READS IS OF BULK AT MOST 1048576: true; the input reads as it did. -/
def gearSameUptoRow : OpenClaim := { program := "ytfhipccjnmfefaadoor", sum := "3de1b6067f064089e7835d375951fd40cd7cf6698697cf07d82caa32ea09b4b3", func := "garret/garretlaw11.GearSame", spec := "gearSame", unfollowed := true, recurses := true, named := ["garret/gear.mixes"], apart := false, laid := [("garret/gear.mixes", laid_garret_gear_mixes)], narrowed := true }
def GearSameUptoSaid : Prop := gearSameUptoRow.holds Tryd.pinned (OpenSpec.upto gearSameSpec)

/-- 'garretlaw11.GearOwn', WHERE WHAT IT READS IS OF BULK AT MOST 1048576: true; the input reads as it did. -/
def gearOwnUptoRow : OpenClaim := { program := "ytfhipccjnmfefaadoor", sum := "3de1b6067f064089e7835d375951fd40cd7cf6698697cf07d82caa32ea09b4b3", func := "garret/garretlaw11.GearOwn", spec := "gearOwn", unfollowed := true, recurses := true, named := ["garret/gear.mixes"], apart := false, laid := [("garret/gear.mixes", laid_garret_gear_mixes)], narrowed := true }
def GearOwnUptoSaid : Prop := gearOwnUptoRow.holds Tryd.pinned (OpenSpec.upto gearOwnSpec)

/-- 'garretlaw11.GearCuts', WHERE WHAT IT READS IS OF BULK AT MOST 1048576: true; the input reads as it did. -/
def gearCutsUptoRow : OpenClaim := { program := "ytfhipccjnmfefaadoor", sum := "3de1b6067f064089e7835d375951fd40cd7cf6698697cf07d82caa32ea09b4b3", func := "garret/garretlaw11.GearCuts", spec := "gearCuts", unfollowed := true, recurses := true, named := ["garret/gear.mixes"], apart := false, laid := [("garret/gear.mixes", laid_garret_gear_mixes)], narrowed := true }
def GearCutsUptoSaid : Prop := gearCutsUptoRow.holds Tryd.pinned (OpenSpec.upto gearCutsSpec)

/-- 'garretlaw11.GearParts', WHERE WHAT IT READS IS OF BULK AT MOST 1048576: true; the input reads as it did. -/
def gearPartsUptoRow : OpenClaim := { program := "ytfhipccjnmfefaadoor", sum := "3de1b6067f064089e7835d375951fd40cd7cf6698697cf07d82caa32ea09b4b3", func := "garret/garretlaw11.GearParts", spec := "gearParts", inPlace := ["internal/abi.NoEscape", "internal/bytealg.MakeNoZero"], unfollowed := true, recurses := true, named := ["garret/gear.mixes"], apart := false, laid := [("garret/gear.mixes", laid_garret_gear_mixes)], narrowed := true }
def GearPartsUptoSaid : Prop := gearPartsUptoRow.holds Tryd.pinned (OpenSpec.upto gearPartsSpec)

end Rows
end Go.Proofs.YtfhipccjnmfefaaDoor
