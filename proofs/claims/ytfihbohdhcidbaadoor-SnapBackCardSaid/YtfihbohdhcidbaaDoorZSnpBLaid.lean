/- From the row's list of variables to what the walk asks of them. Written for this claim in this session. -/
import Derived.Test.YtfihbohdhcidbaaDoorRows
import Derived.Test.YtfihbohdhcidbaaDoorYLaidTabs
import Derived.LaidLaws
import Derived.Stop.LaidErr
import Derived.Lib.LaidTab
import Derived.Shelf.Vars
namespace Go.Proofs.YtfihbohdhcidbaaDoor.QSnpB
open Go.RowKit Go.Proofs.YtfihbohdhcidbaaDoorW.PrintWords
def shaTab : List Int := [1116352408, 1899447441, 3049323471, 3921009573, 961987163, 1508970993, 2453635748, 2870763221, 3624381080, 310598401, 607225278, 1426881987, 1925078388, 2162078206, 2614888103, 3248222580, 3835390401, 4022224774, 264347078, 604807628, 770255983, 1249150122, 1555081692, 1996064986, 2554220882, 2821834349, 2952996808, 3210313671, 3336571891, 3584528711, 113926993, 338241895, 666307205, 773529912, 1294757372, 1396182291, 1695183700, 1986661051, 2177026350, 2456956037, 2730485921, 2820302411, 3259730800, 3345764771, 3516065817, 3600352804, 4094571909, 275423344, 430227734, 506948616, 659060556, 883997877, 958139571, 1322822218, 1537002063, 1747873779, 1955562222, 2024104815, 2227730452, 2361852424, 2428436474, 2756734187, 3204031479, 3329325298]
theorem laid_consts : Tryd.prog.globalNamed "garret/sha.constants" = some 0 := by kernel_rfl
theorem shaTab_at : ∀ i : Fin 64, shaTab.getD i.val 0 = ((Sha.wd Sha.K i.val).toNat : Int) := by decide +kernel
theorem laid_of {W : World} (h0 : laidMetH Tryd.prog [("unicode/utf8.acceptRanges", Rows.laid_unicode_utf8_acceptRanges), ("garret/sha.constants", Rows.laid_garret_sha_constants), ("unicode/utf8.first", Rows.laid_unicode_utf8_first)] W) (hs : W.ShapedOpen Tryd.prog) : Laid W := by
  have h1 : laidMet Tryd.prog (("unicode/utf8.acceptRanges", Rows.laid_unicode_utf8_acceptRanges) :: ("garret/sha.constants", Lib.tabData .u32 shaTab) :: ("unicode/utf8.first", Rows.laid_unicode_utf8_first) :: []) W := h0
  have h := laidMet.tail h1
  have hT := Lib.tabIs_of_head laid_consts (show (Tryd.prog.globals[0]?).map (·.type) = some 105 by kernel_rfl) (show Tryd.prog.underlying 105 = some (.array 64 89) by kernel_rfl) (show Tryd.prog.underlying 89 = some (.int .u32) by kernel_rfl) (show Tryd.prog.cellsOf 89 = 1 by kernel_rfl) (show Tryd.prog.cellsOf 105 = 64 by kernel_rfl) h
  refine ⟨fun i hi => ?_, cell_of_shapedOpen_int hs (of_decide_eq_true (by kernel_rfl)) (show ((begin Tryd.prog (fun _ _ => 0) default).world.heap[1]?).bind Obj.row? = some (#[.int .i64 0], 3) by kernel_rfl) rfl (by kernel_rfl) (by kernel_rfl) (by kernel_rfl)⟩
  rw [← shaTab_at ⟨i, hi⟩]
  exact hT.cell laid_consts i hi
end Go.Proofs.YtfihbohdhcidbaaDoor.QSnpB
