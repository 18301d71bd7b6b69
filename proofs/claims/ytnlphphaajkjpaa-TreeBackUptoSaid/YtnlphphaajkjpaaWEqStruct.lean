-- Words that the kit's print wrote for this seat, cut down to those that this claim uses, by a program of this session.
import Derived.Test.YtnlphphaajkjpaaWWords
import Derived.Laws.StructEq
/-! ### 53. '==' of structs as_ one Bool -/
namespace Go.Proofs.YtnlphphaajkjpaaW.PrintWords
open Go.RowKit
section
variable {P : Program} {d : Nat} {xs ys : Array Value} {f : Field} {fs : List Field} {a b : Value} {r s : Bool} {w : World}
end
end Go.Proofs.YtnlphphaajkjpaaW.PrintWords
