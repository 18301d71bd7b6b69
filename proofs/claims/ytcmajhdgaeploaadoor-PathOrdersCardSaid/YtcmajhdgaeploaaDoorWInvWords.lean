-- Words that the kit's print wrote for this seat, cut down to those that this claim uses, by a program of this session.
import Derived.Test.YtcmajhdgaeploaaDoorWInv
import Derived.Test.YtcmajhdgaeploaaDoorWFootNe
namespace Go.Proofs.YtcmajhdgaeploaaDoorW.PrintWords
open Go.RowKit
end Go.Proofs.YtcmajhdgaeploaaDoorW.PrintWords
namespace Go.Proofs.YtcmajhdgaeploaaDoorW.PrintLast
section
variable {ops : Array Oper} {a : Act} {o og : Oper} {g : Nat} {t : Tmp} {u : Bool}
end
end Go.Proofs.YtcmajhdgaeploaaDoorW.PrintLast
