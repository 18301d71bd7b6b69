/- ShaPieces, the plain part: the example holds, and the cuts are what their type allows. -/
import Derived.Test.YtdfhffhnioamhaaDoorQShaCx1
namespace Go.Proofs.YtdfhffhnioamhaaDoor.Pure
open Go.RowKit Go.Proofs.YtdfhffhnioamhaaDoor.QShaC Go.Proofs.YtdfhffhnioamhaaDoorW.PrintWords Go.Proofs.YtdfhffhnioamhaaDoorW.PrintLast
set_option maxRecDepth 100000
theorem works_told : garretlaw02_works.f = some true := by decide +kernel
theorem ShaPieces : garretlaw02_ShaPieces.Pure := fun a0 l1 _ h => by
  unfold garretlaw02_ShaPieces.f
  rw [if_pos ⟨h.2.2, works_told⟩]
end Go.Proofs.YtdfhffhnioamhaaDoor.Pure
