/- A block's cells, told at once. -/
import Derived.Test.YtcmajhdgaeploaaDoorWWords
namespace Go.Proofs.YtcmajhdgaeploaaDoorW.PrintWords
open Go.RowKit
end Go.Proofs.YtcmajhdgaeploaaDoorW.PrintWords
