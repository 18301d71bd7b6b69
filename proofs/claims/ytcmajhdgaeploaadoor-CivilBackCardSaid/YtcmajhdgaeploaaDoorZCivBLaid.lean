/- From CivilBack's list of variables, and from the world's shape, to what the walk asks of them. Written for this claim in this session. -/
import Derived.Test.YtcmajhdgaeploaaDoorRows
import Derived.Test.YtcmajhdgaeploaaDoorYLaidTabs
import Derived.LaidLaws
import Derived.Stop.LaidErr
import Derived.Lib.LaidTab
import Derived.Shelf.Vars
namespace Go.Proofs.YtcmajhdgaeploaaDoor.QCivB
open Go.RowKit Go.Proofs.YtcmajhdgaeploaaDoorW.PrintWords

theorem laid_of {W : World} (h0 : laidMetH Tryd.prog Rows.civilBackRow.laid W) (hs : W.ShapedOpen Tryd.prog) : Laid W := by
  have h : laidMet Tryd.prog Rows.civilBackRow.laid W := h0
  have h2 := laidMet.tail (laidMet.tail h)
  have h6 := laidMet.tail (laidMet.tail (laidMet.tail (laidMet.tail h2)))
  have hp : laidMet Tryd.prog (("internal/strconv.uint64pow10", Lib.tabData .u64 Lib.pow10Tab) :: [("unicode/utf8.acceptRanges", Rows.laid_unicode_utf8_acceptRanges), ("strconv.ErrRange", Rows.laid_strconv_ErrRange), ("strconv.ErrSyntax", Rows.laid_strconv_ErrSyntax), ("garret/civil.days", Rows.laid_garret_civil_days), ("unicode/utf8.first", Rows.laid_unicode_utf8_first)]) W := h2
  have hd : laidMet Tryd.prog (("garret/civil.days", Lib.tabData .i64 daysTab) :: [("unicode/utf8.first", Rows.laid_unicode_utf8_first)]) W := h6
  exact ⟨Lib.tabIs_of_head laid_days (show (Tryd.prog.globals[0]?).map (·.type) = some 65 by kernel_rfl) (show Tryd.prog.underlying 65 = some (.array 13 3) by kernel_rfl) (show Tryd.prog.underlying 3 = some (.int .i64) by kernel_rfl) (show Tryd.prog.cellsOf 3 = 1 by kernel_rfl) (show Tryd.prog.cellsOf 65 = 13 by kernel_rfl) hd,
    Lib.tabIs_of_head laid_pow10 (show (Tryd.prog.globals[4]?).map (·.type) = some 150 by kernel_rfl) (show Tryd.prog.underlying 150 = some (.array 20 123) by kernel_rfl) (show Tryd.prog.underlying 123 = some (.int .u64) by kernel_rfl) (show Tryd.prog.cellsOf 123 = 1 by kernel_rfl) (show Tryd.prog.cellsOf 150 = 20 by kernel_rfl) hp,
    cell_of_shapedOpen_int hs (of_decide_eq_true (by kernel_rfl)) (show ((begin Tryd.prog (fun _ _ => 0) default).world.heap[1]?).bind Obj.row? = some (#[.int .i64 0], 3) by kernel_rfl) rfl (by kernel_rfl) (by kernel_rfl) (by kernel_rfl)⟩
end Go.Proofs.YtcmajhdgaeploaaDoor.QCivB
