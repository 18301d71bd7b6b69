/- What the walk asks of the package-level variables: the bound of package bytealg holds some number. -/
import Derived.Test.YtcmajhdgaeploaaDoorProg
import Derived.Test.YtcmajhdgaeploaaDoorWWords
import Derived.WalkSmall
namespace Go.Proofs.YtcmajhdgaeploaaDoorW.PrintWords
open Go.RowKit
structure Laid (w : World) : Prop where
  maxlen : ∃ m : Int, w.cell? ⟨1, 0, none⟩ = some (.int .i64 m)
theorem Laid.below {w w' : World} (h : Laid w) (hb : Below w.heap.size w w') : Laid w' :=
  ⟨by obtain ⟨m, hm⟩ := h.maxlen; exact ⟨m, (hb.cell (World.block_lt_of_cell? w _ hm)).trans hm⟩⟩
theorem Laid.drewN {w : World} (h : Laid w) (n : Nat) : Laid (w.drewN n) := Laid.below h (pw_below_drewN (Below.refl _ _) n)
end Go.Proofs.YtcmajhdgaeploaaDoorW.PrintWords
