-- Words that the kit's print wrote for this seat, cut down to those that this claim uses, by a program of this session.
import Derived.Test.YtfihbohdhcidbaaDoorWInv
import Derived.Test.YtfihbohdhcidbaaDoorWFootNe
namespace Go.Proofs.YtfihbohdhcidbaaDoorW.PrintWords
open Go.RowKit
end Go.Proofs.YtfihbohdhcidbaaDoorW.PrintWords
namespace Go.Proofs.YtfihbohdhcidbaaDoorW.PrintLast
section
variable {ops : Array Oper} {a : Act} {o og : Oper} {g : Nat} {t : Tmp} {u : Bool}
end
end Go.Proofs.YtfihbohdhcidbaaDoorW.PrintLast
