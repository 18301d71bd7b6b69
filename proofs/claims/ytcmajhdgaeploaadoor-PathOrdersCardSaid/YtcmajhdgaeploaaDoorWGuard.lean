-- Words that the kit's print wrote for this seat, cut down to those that this claim uses, by a program of this session.
import Derived.Test.YtcmajhdgaeploaaDoorWWords
/-! ### 58. A guarded operation whose guard is known to want it: the same goal without the guard -/
namespace Go.Proofs.YtcmajhdgaeploaaDoorW.PrintWords
open Go.RowKit
section
variable {P : Program} {ops : Array Oper} {rest : List Oper} {o : Oper} {a : Act} {Q : Exit → Act → World → Prop} {W : World}
end
end Go.Proofs.YtcmajhdgaeploaaDoorW.PrintWords
