-- Written for this claim by a program of this session.
import Derived.Test.YtfhipccjnmfefaaProg
import Derived.Below
import Derived.Deep.Draws
import Derived.Deep.AppendLies
import Derived.Maps.AppendAt
import Derived.OwnWalk
import Derived.Laws.BytesArg
import Derived.Laws.MakeOwn
import Derived.Laws.OwnMore
import Derived.Deep.OwnRows
import Derived.Tactics
import Derived.Lib.ConvBytes
import Derived.Laws.Slices
import Derived.WalkKit
import Derived.KernelRfl
import Derived.RowKit3
import Derived.Deep.LoopGhost
import Derived.Deep.QuietTactic
import Derived.BigQuiet
import Derived.WideLaws
import Derived.Deep.DeepCutAuto
import Derived.Deep.CutBlock
import Derived.Deep.RegionHeld3
import Derived.Laws.Rows
import Derived.Lib.AppendStr
import Derived.ArgAppend
import Derived.Laws.IdiomCopy
import Derived.OrdersHeld
import Derived.Laws.BitsLemmas
import Derived.RowKit
import Derived.Test.YtfhipccjnmfefaaWWords
import Derived.Test.YtfhipccjnmfefaaWLast
import Derived.Test.YtfhipccjnmfefaaWTab
import Derived.Test.YtfhipccjnmfefaaWFour
import Derived.Test.YtfhipccjnmfefaaWQPut
import Derived.Test.YtfhipccjnmfefaaWApart
import Derived.Test.YtfhipccjnmfefaaWArr
import Derived.Test.YtfhipccjnmfefaaWZeros
import Derived.Test.YtfhipccjnmfefaaWFoot
import Derived.Test.YtfhipccjnmfefaaWKept
import Derived.Test.YtfhipccjnmfefaaWShare
import Derived.Test.YtfhipccjnmfefaaWN
import Derived.Test.YtfhipccjnmfefaaWFootNe
import Derived.Test.YtfhipccjnmfefaaWAt
import Derived.Test.YtfhipccjnmfefaaWEqStruct
import Derived.Test.YtfhipccjnmfefaaWRepsOne
import Derived.Test.YtfhipccjnmfefaaWInv
import Derived.Test.YtfhipccjnmfefaaWInvWords
import Derived.Test.YtfhipccjnmfefaaWGuard
import Derived.Test.YtfhipccjnmfefaaWNEv
import Derived.Test.YtfhipccjnmfefaaWMore
namespace Go.Proofs.Ytfhipccjnmfefaa.QNumWrites
open Go.RowKit Go.Proofs.YtfhipccjnmfefaaW.PrintWords Go.Proofs.YtfhipccjnmfefaaW.PrintLast Go.Proofs.YtfhipccjnmfefaaW.PrintMore
attribute [local go_sem] max2_int min2_int max_two min_two max_three min_three max_four min_four   -- for this text's walks alone
set_option linter.unusedVariables false
set_option linter.unusedSimpArgs false



def errW : Option Int → Value
  | none => .nilIface
  | some c => .iface 0 (.int .i64 c)
theorem errW_none : errW none = .nilIface := rfl
theorem errW_some (c : Int) : errW (some c) = .iface 0 (.int .i64 c) := rfl

theorem info5 : (Try.prog.info? 5).map (fun i => (i.zero, i.size, i.bytes)) = some (some (.int .u8 0), 1, 1) := by kernel_rfl
-- the values' own types

end Go.Proofs.Ytfhipccjnmfefaa.QNumWrites
