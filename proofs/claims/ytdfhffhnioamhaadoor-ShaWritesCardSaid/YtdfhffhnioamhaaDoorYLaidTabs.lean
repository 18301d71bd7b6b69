/- What the listed package-level variable holds that the code reads: the table of SHA-256's constants. -/
import Derived.Test.YtdfhffhnioamhaaDoorYShaTake
namespace Go.Proofs.YtdfhffhnioamhaaDoorW.PrintWords
open Go.RowKit
def Laid (w : World) : Prop := Go.Proofs.YtdfhffhnioamhaaDoor.Sha.Consts w
theorem Laid.below {w w' : World} (h : Laid w) (hb : Below w.heap.size w w') : Laid w' := Go.Proofs.YtdfhffhnioamhaaDoor.Sha.Consts.below h hb
theorem Laid.drewN {w : World} (h : Laid w) (n : Nat) : Laid (w.drewN n) := Laid.below h (pw_below_drewN (Below.refl _ _) n)
end Go.Proofs.YtdfhffhnioamhaaDoorW.PrintWords
