-- Words that the kit's print wrote for this seat, cut down to those that this claim uses, by a program of this session.
import Derived.Test.YtcmpjjbhhehanaaGreatDoorWInv
import Derived.Test.YtcmpjjbhhehanaaGreatDoorWFootNe
namespace Go.Proofs.YtcmpjjbhhehanaaGreatDoorW.PrintWords
open Go.RowKit
end Go.Proofs.YtcmpjjbhhehanaaGreatDoorW.PrintWords
namespace Go.Proofs.YtcmpjjbhhehanaaGreatDoorW.PrintLast
section
variable {ops : Array Oper} {a : Act} {o og : Oper} {g : Nat} {t : Tmp} {u : Bool}
end
end Go.Proofs.YtcmpjjbhhehanaaGreatDoorW.PrintLast
