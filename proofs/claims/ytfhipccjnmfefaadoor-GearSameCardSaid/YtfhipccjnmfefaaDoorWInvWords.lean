-- Words that the kit's print wrote for this seat, cut down to those that this claim uses, by a program of this session.
import Derived.Test.YtfhipccjnmfefaaDoorWInv
import Derived.Test.YtfhipccjnmfefaaDoorWFootNe
namespace Go.Proofs.YtfhipccjnmfefaaDoorW.PrintWords
open Go.RowKit
end Go.Proofs.YtfhipccjnmfefaaDoorW.PrintWords
namespace Go.Proofs.YtfhipccjnmfefaaDoorW.PrintLast
section
variable {ops : Array Oper} {a : Act} {o og : Oper} {g : Nat} {t : Tmp} {u : Bool}
end
end Go.Proofs.YtfhipccjnmfefaaDoorW.PrintLast
