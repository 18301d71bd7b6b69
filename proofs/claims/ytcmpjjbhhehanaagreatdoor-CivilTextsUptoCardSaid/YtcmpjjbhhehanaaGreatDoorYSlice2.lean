/- A text cut at two numbers, run. -/
import Derived.Test.YtcmpjjbhhehanaaGreatDoorProg
import Derived.Test.YtcmpjjbhhehanaaGreatDoorWWords
namespace Go.Proofs.YtcmpjjbhhehanaaGreatDoorW.PrintWords
open Go Go.RowKit
theorem slice_two (s : ByteArray) (i j : Nat) (x y : Int) (hx : x = i) (hy : y = j) (h1 : i ≤ j) (h2 : y ≤ (s.size : Int)) (w : World) :
    (Instr.slice 9 (.string s) (some (.int .i64 x)) (some (.int .i64 y)) none).run Tryz.prog w = .ok (.string (s.extract i j)) w := by
  subst hx hy
  have a1 : i ≤ j := h1
  simp [go_sem, Instr.slice, a1, h2]
end Go.Proofs.YtcmpjjbhhehanaaGreatDoorW.PrintWords
