-- Written for this claim in this session.
import Derived.Test.YtfhipccjnmfefaaDoorRows
import Derived.Test.YtfhipccjnmfefaaDoorQGearx1
import Derived.OpenShut
import Derived.ChangeSame
import Derived.FnData
import Derived.Deep.DeepHandedRow
import Derived.Lib.LaidTab
namespace Go.Proofs.YtfhipccjnmfefaaDoor.QGear
open Go.RowKit Go.ChangeShapes Go.WideShapes Go.ChangeAt

theorem laid_of {W : World} (h0 : laidMetH Tryd.prog [("garret/gear.mixes", Rows.laid_garret_gear_mixes)] W) : Laid W := by
  have h : laidMet Tryd.prog [("garret/gear.mixes", Rows.laid_garret_gear_mixes)] W := h0
  obtain ⟨ps, ⟨g, t, cs, fuel, p, q, hg, ht, hvar, hd, _, _⟩, _⟩ := h
  obtain rfl : g = 0 := Option.some.inj (hg.symm.trans (show Tryd.prog.globalNamed "garret/gear.mixes" = some 0 by kernel_rfl))
  obtain rfl : t = 72 := Option.some.inj (ht.symm.trans (show (Tryd.prog.globals[0]?).map (·.type) = some 72 by kernel_rfl))
  have e71 : Tryd.prog.cellsOf 71 = 2 := by kernel_rfl
  have e72 : Tryd.prog.cellsOf 72 = 4 := by kernel_rfl
  have e3 : Tryd.prog.cellsOf 3 = 1 := by kernel_rfl
  have e37 : Tryd.prog.cellsOf 37 = 1 := by kernel_rfl
  have u71 : Tryd.prog.underlying 71 = some (.struct #[⟨"shift", 3, 0, false, "", "garret/gear", 0⟩, ⟨"by", 37, 1, false, "", "garret/gear", 8⟩]) := by kernel_rfl
  obtain ⟨xs, m, rfl, hx, hl, hn, hf⟩ := DataW.trod_array (show Tryd.prog.underlying 72 = some (.array 2 71) by kernel_rfl) hd
  rw [e72] at hl
  rw [e71] at hf
  match xs, hn with
  | [y0, y1], _ =>
  have h0 := hf 0 (by decide)
  have h1 := hf 1 (by decide)
  obtain ⟨a0, b0, n0, rfl, l0, s0, s1⟩ := trod_struct2 u71 (h0.trans rfl)
  obtain ⟨a1, b1, n1, rfl, l1, s2, s3⟩ := trod_struct2 u71 (h1.trans rfl)
  simp only [e3, e37] at s0 s1 s2 s3
  obtain ⟨z0, q0, rfl, _⟩ := DataW.trod_int (k := .i64) (by kernel_rfl) s0
  obtain ⟨z1, q1, rfl, _⟩ := DataW.trod_int (k := .u64) (by kernel_rfl) s1
  obtain ⟨z2, q2, rfl, _⟩ := DataW.trod_int (k := .i64) (by kernel_rfl) s2
  obtain ⟨z3, q3, rfl, _⟩ := DataW.trod_int (k := .u64) (by kernel_rfl) s3
  have hx1 := congrArg Prod.fst hx
  simp only [Rows.laid_garret_gear_mixes, List.map_cons, List.map_nil, DataW.agg.injEq, List.cons.injEq, DataW.lit.injEq, Lit.int.injEq, true_and, and_true] at hx1
  obtain ⟨⟨rfl, rfl⟩, rfl, rfl⟩ := hx1
  match hc : cs.toList, hl with
  | [c0, c1, c2, c3], _ =>
  rw [hc] at q0 q1 q2 q3
  simp at q0 q1 q2 q3
  subst q0 q1 q2 q3
  have hcs : cs = #[.int .i64 31, .int .u64 13787848793156543929, .int .i64 29, .int .u64 1] := by
    apply Array.toList_inj.mp
    exact hc
  subst hcs
  exact ⟨World.var?_cell hg hvar 0, World.var?_cell hg hvar 1, World.var?_cell hg hvar 2, World.var?_cell hg hvar 3⟩

end Go.Proofs.YtfhipccjnmfefaaDoor.QGear
