-- Words that the kit's print wrote for this seat, cut down to those that this claim uses, by a program of this session.
import Derived.Test.YtdfhffhnioamhaaDoorWInv
import Derived.Test.YtdfhffhnioamhaaDoorWFootNe
namespace Go.Proofs.YtdfhffhnioamhaaDoorW.PrintWords
open Go.RowKit
end Go.Proofs.YtdfhffhnioamhaaDoorW.PrintWords
namespace Go.Proofs.YtdfhffhnioamhaaDoorW.PrintLast
section
variable {ops : Array Oper} {a : Act} {o og : Oper} {g : Nat} {t : Tmp} {u : Bool}
end
end Go.Proofs.YtdfhffhnioamhaaDoorW.PrintLast
