-- Words that the kit's print wrote for this seat, cut down to those that this claim uses, by a program of this session.
import Derived.Test.YtfihbohdhcidbaaWInv
import Derived.Test.YtfihbohdhcidbaaWFootNe
namespace Go.Proofs.YtfihbohdhcidbaaW.PrintWords
open Go.RowKit
end Go.Proofs.YtfihbohdhcidbaaW.PrintWords
namespace Go.Proofs.YtfihbohdhcidbaaW.PrintLast
section
variable {ops : Array Oper} {a : Act} {o og : Oper} {g : Nat} {t : Tmp} {u : Bool}
end
end Go.Proofs.YtfihbohdhcidbaaW.PrintLast
