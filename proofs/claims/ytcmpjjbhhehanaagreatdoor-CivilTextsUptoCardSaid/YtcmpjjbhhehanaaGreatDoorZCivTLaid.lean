/- From CivilTexts' list of variables, and from the world's shape, to what the walk asks of them. Written for this claim in this session. -/
import Derived.Test.YtcmpjjbhhehanaaGreatDoorRows
import Derived.Test.YtcmpjjbhhehanaaGreatDoorYLaidTabs
import Derived.LaidLaws
import Derived.Stop.LaidErr
import Derived.Lib.LaidTab
import Derived.Shelf.Vars
namespace Go.Proofs.YtcmpjjbhhehanaaGreatDoor.QCivT
open Go.RowKit Go.Proofs.YtcmpjjbhhehanaaGreatDoorW.PrintWords

theorem star : "*" ++ "errors.errorString" = "*errors.errorString" := by decide
theorem err_row (u : TypeId) (h : Tryz.prog.typeName? 3 u = some "*errors.errorString") : u = 124 :=
  typeName_ptr_named (nm := "errors.errorString") (by rw [star]; kernel_rfl) (by kernel_rfl) (by decide) u (by rw [star]; exact h)
theorem err_at {n : String} {text : List UInt8} {r : List (String × DataW Unit)} {W : World} {g : Nat} (h : laidMet Tryz.prog ((n, .iface "*errors.errorString" (.ptr (.agg [.lit (.string text)]))) :: r) W)
    (hg : Tryz.prog.globalNamed n = some g) (ht : (Tryz.prog.globals[g]?).map (·.type) = some 54) : ∃ v, W.cell? ⟨g, 0, none⟩ = some v ∧ (v = .nilIface ∨ ∃ te pe, v = .iface te pe) := by
  obtain ⟨a, s, hv, _, _, _⟩ := laid_sentinel h hg ht Tryz.underlying54 err_row Tryz.underlying124 Tryz.underlying126 rfl rfl Tryz.underlying9 (by kernel_rfl) (by kernel_rfl)
  exact ⟨_, (World.var?_cell hg hv 0).trans rfl, .inr ⟨_, _, rfl⟩⟩
theorem laid_of {W : World} (h0 : laidMetH Tryz.prog Rows.civilTextsRow.laid W) (hs : W.ShapedOpen Tryz.prog) : Laid W := by
  have h : laidMet Tryz.prog Rows.civilTextsRow.laid W := h0
  have h2 := laidMet.tail (laidMet.tail h)
  have he1 := laidMet.tail (laidMet.tail h2)
  have he2 := laidMet.tail he1
  have h6 := laidMet.tail (laidMet.tail (laidMet.tail (laidMet.tail h2)))
  have hp : laidMet Tryz.prog (("internal/strconv.uint64pow10", Lib.tabData .u64 Lib.pow10Tab) :: [("unicode/utf8.acceptRanges", Rows.laid_unicode_utf8_acceptRanges), ("strconv.ErrRange", Rows.laid_strconv_ErrRange), ("strconv.ErrSyntax", Rows.laid_strconv_ErrSyntax), ("garret/civil.days", Rows.laid_garret_civil_days), ("unicode/utf8.first", Rows.laid_unicode_utf8_first)]) W := h2
  have hd : laidMet Tryz.prog (("garret/civil.days", Lib.tabData .i64 daysTab) :: [("unicode/utf8.first", Rows.laid_unicode_utf8_first)]) W := h6
  exact ⟨Lib.tabIs_of_head laid_days (show (Tryz.prog.globals[0]?).map (·.type) = some 58 by kernel_rfl) (show Tryz.prog.underlying 58 = some (.array 13 3) by kernel_rfl) (show Tryz.prog.underlying 3 = some (.int .i64) by kernel_rfl) (show Tryz.prog.cellsOf 3 = 1 by kernel_rfl) (show Tryz.prog.cellsOf 58 = 13 by kernel_rfl) hd,
    Lib.tabIs_of_head laid_pow10 (show (Tryz.prog.globals[4]?).map (·.type) = some 115 by kernel_rfl) (show Tryz.prog.underlying 115 = some (.array 20 83) by kernel_rfl) (show Tryz.prog.underlying 83 = some (.int .u64) by kernel_rfl) (show Tryz.prog.cellsOf 83 = 1 by kernel_rfl) (show Tryz.prog.cellsOf 115 = 20 by kernel_rfl) hp,
    cell_of_shapedOpen_int hs (of_decide_eq_true (by kernel_rfl)) (show ((begin Tryz.prog (fun _ _ => 0) default).world.heap[1]?).bind Obj.row? = some (#[.int .i64 0], 3) by kernel_rfl) rfl (by kernel_rfl) (by kernel_rfl) (by kernel_rfl),
    err_at he2 (show Tryz.prog.globalNamed "strconv.ErrSyntax" = some 2 by kernel_rfl) (show (Tryz.prog.globals[2]?).map (·.type) = some 54 by kernel_rfl),
    err_at he1 (show Tryz.prog.globalNamed "strconv.ErrRange" = some 3 by kernel_rfl) (show (Tryz.prog.globals[3]?).map (·.type) = some 54 by kernel_rfl)⟩
end Go.Proofs.YtcmpjjbhhehanaaGreatDoor.QCivT
