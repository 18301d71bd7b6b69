/- What the listed package-level variables hold that the code reads: the days of the months, the powers of ten, some errors. -/
import Derived.Test.YtcmpjjbhhehanaaGreatDoorProg
import Derived.Test.YtcmpjjbhhehanaaGreatDoorWWords
import Derived.Lib.LaidTab
import Derived.Lib.ItoaNum
import Derived.WalkSmall
namespace Go.Proofs.YtcmpjjbhhehanaaGreatDoorW.PrintWords
open Go.RowKit
def daysTab : List Int := [0, 31, 28, 31, 30, 31, 30, 31, 31, 30, 31, 30, 31]
/-- What the walk asks of the variables: the tables hold what their initialisers lay; the bound of package bytealg holds some number. -/
structure Laid (w : World) : Prop where
  days : Lib.TabIs Tryz.prog w "garret/civil.days" .i64 daysTab
  pow10 : Lib.TabIs Tryz.prog w "internal/strconv.uint64pow10" .u64 Lib.pow10Tab
  maxlen : ∃ m : Int, w.cell? ⟨1, 0, none⟩ = some (.int .i64 m)
  esyn : ∃ ev : Value, w.cell? ⟨2, 0, none⟩ = some ev ∧ (ev = .nilIface ∨ ∃ te pe, ev = .iface te pe)
  erng : ∃ ev : Value, w.cell? ⟨3, 0, none⟩ = some ev ∧ (ev = .nilIface ∨ ∃ te pe, ev = .iface te pe)
theorem laid_days : Tryz.prog.globalNamed "garret/civil.days" = some 0 := by kernel_rfl
theorem laid_pow10 : Tryz.prog.globalNamed "internal/strconv.uint64pow10" = some 4 := by kernel_rfl
theorem Laid.below {w w' : World} (h : Laid w) (hb : Below w.heap.size w w') : Laid w' :=
  ⟨var?_below hb laid_days (World.block_lt_of_cell? w _ (h.days.cell laid_days 0 (by decide))) h.days,
   var?_below hb laid_pow10 (World.block_lt_of_cell? w _ (h.pow10.cell laid_pow10 0 (by decide))) h.pow10,
   by obtain ⟨m, hm⟩ := h.maxlen; exact ⟨m, (hb.cell (World.block_lt_of_cell? w _ hm)).trans hm⟩,
   by obtain ⟨m, hm, h2⟩ := h.esyn; exact ⟨m, (hb.cell (World.block_lt_of_cell? w _ hm)).trans hm, h2⟩,
   by obtain ⟨m, hm, h2⟩ := h.erng; exact ⟨m, (hb.cell (World.block_lt_of_cell? w _ hm)).trans hm, h2⟩⟩
theorem Laid.drewN {w : World} (h : Laid w) (n : Nat) : Laid (w.drewN n) := Laid.below h (pw_below_drewN (Below.refl _ _) n)
end Go.Proofs.YtcmpjjbhhehanaaGreatDoorW.PrintWords
