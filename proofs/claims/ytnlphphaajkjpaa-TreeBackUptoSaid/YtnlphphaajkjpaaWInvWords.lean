-- Words that the kit's print wrote for this seat, cut down to those that this claim uses, by a program of this session.
import Derived.Test.YtnlphphaajkjpaaWInv
import Derived.Test.YtnlphphaajkjpaaWFootNe
namespace Go.Proofs.YtnlphphaajkjpaaW.PrintWords
open Go.RowKit
end Go.Proofs.YtnlphphaajkjpaaW.PrintWords
namespace Go.Proofs.YtnlphphaajkjpaaW.PrintLast
section
variable {ops : Array Oper} {a : Act} {o og : Oper} {g : Nat} {t : Tmp} {u : Bool}
end
end Go.Proofs.YtnlphphaajkjpaaW.PrintLast
