/- From the world's shape to what the walk asks of the package-level variables. Written for this claim in this session. -/
import Derived.Test.YtcmajhdgaeploaaDoorRows
import Derived.Test.YtcmajhdgaeploaaDoorYLaidTabs
import Derived.LaidLaws
import Derived.Stop.LaidErr
import Derived.Shelf.Vars
namespace Go.Proofs.YtcmajhdgaeploaaDoor.QPthO
open Go.RowKit Go.Proofs.YtcmajhdgaeploaaDoorW.PrintWords
theorem laid_of {W : World} {L : _} (_ : laidMetH Tryd.prog L W) (hs : W.ShapedOpen Tryd.prog) : Laid W :=
  ⟨cell_of_shapedOpen_int hs (of_decide_eq_true (by kernel_rfl)) (show ((begin Tryd.prog (fun _ _ => 0) default).world.heap[1]?).bind Obj.row? = some (#[.int .i64 0], 3) by kernel_rfl) rfl (by kernel_rfl) (by kernel_rfl) (by kernel_rfl)⟩
end Go.Proofs.YtcmajhdgaeploaaDoor.QPthO
