/- a >= b of two texts, run. -/
import Derived.Test.YtnlphphaajkjpaaProg
import Derived.Test.YtnlphphaajkjpaaWWords
namespace Go.Proofs.YtnlphphaajkjpaaW.PrintWords
open Go Go.RowKit
theorem geq_str (x y : ByteArray) (w : World) : (binOp BinOp.geq 9 (.string x) (.string y)).run Try.prog w = .ok (.bool (!Op.bytesLess x.toList y.toList)) w := by
  simp [go_sem, binOp, Op.stringOp]
end Go.Proofs.YtnlphphaajkjpaaW.PrintWords
