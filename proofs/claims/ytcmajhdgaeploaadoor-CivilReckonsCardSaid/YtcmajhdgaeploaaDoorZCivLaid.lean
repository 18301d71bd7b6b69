/- From the row's list of variables to what the walk asks of them. Written for this claim in this session. -/
import Derived.Test.YtcmajhdgaeploaaDoorRows
import Derived.Test.YtcmajhdgaeploaaDoorYCivTabs
import Derived.LaidLaws
import Derived.Stop.LaidErr
import Derived.Lib.LaidTab
namespace Go.Proofs.YtcmajhdgaeploaaDoor.QCiv
open Go.RowKit Go.Proofs.YtcmajhdgaeploaaDoorW.PrintWords

theorem laid_of {W : World} (h0 : laidMetH Tryd.prog [("math/bits.deBruijn32tab", Rows.laid_math_bits_deBruijn32tab), ("math/bits.deBruijn64tab", Rows.laid_math_bits_deBruijn64tab), ("internal/strconv.uint64pow10", Rows.laid_internal_strconv_uint64pow10), ("garret/civil.days", Rows.laid_garret_civil_days)] W) : Laid W := by
  have h : laidMet Tryd.prog [("math/bits.deBruijn32tab", Rows.laid_math_bits_deBruijn32tab), ("math/bits.deBruijn64tab", Rows.laid_math_bits_deBruijn64tab), ("internal/strconv.uint64pow10", Rows.laid_internal_strconv_uint64pow10), ("garret/civil.days", Rows.laid_garret_civil_days)] W := h0
  have h2 := (laidMet.tail (laidMet.tail h))
  have h3 := laidMet.tail h2
  have hp : laidMet Tryd.prog (("internal/strconv.uint64pow10", Lib.tabData .u64 Lib.pow10Tab) :: [("garret/civil.days", Rows.laid_garret_civil_days)]) W := h2
  have hd : laidMet Tryd.prog (("garret/civil.days", Lib.tabData .i64 daysTab) :: []) W := h3
  exact ⟨Lib.tabIs_of_head laid_days (show (Tryd.prog.globals[0]?).map (·.type) = some 65 by kernel_rfl) (show Tryd.prog.underlying 65 = some (.array 13 3) by kernel_rfl) (show Tryd.prog.underlying 3 = some (.int .i64) by kernel_rfl) (show Tryd.prog.cellsOf 3 = 1 by kernel_rfl) (show Tryd.prog.cellsOf 65 = 13 by kernel_rfl) hd,
    Lib.tabIs_of_head laid_pow10 (show (Tryd.prog.globals[4]?).map (·.type) = some 150 by kernel_rfl) (show Tryd.prog.underlying 150 = some (.array 20 123) by kernel_rfl) (show Tryd.prog.underlying 123 = some (.int .u64) by kernel_rfl) (show Tryd.prog.cellsOf 123 = 1 by kernel_rfl) (show Tryd.prog.cellsOf 150 = 20 by kernel_rfl) hp⟩
end Go.Proofs.YtcmajhdgaeploaaDoor.QCiv
