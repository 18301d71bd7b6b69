/- ShaBack, the plain part: the example holds, and the arguments are what their types allow. -/
import Derived.Test.YtdfhffhnioamhaaDoorQShaBx1
namespace Go.Proofs.YtdfhffhnioamhaaDoor.Pure
open Go.RowKit Go.Proofs.YtdfhffhnioamhaaDoor.QShaB Go.Proofs.YtdfhffhnioamhaaDoorW.PrintWords Go.Proofs.YtdfhffhnioamhaaDoorW.PrintLast
set_option maxRecDepth 100000
theorem works_told : garretlaw02_works.f = some true := by decide +kernel
theorem ShaBack : garretlaw02_ShaBack.Pure := fun a0 a1 a2 _ h1 h2 => by
  unfold garretlaw02_ShaBack.f
  rw [if_pos ⟨⟨h1, h2⟩, works_told⟩]
end Go.Proofs.YtdfhffhnioamhaaDoor.Pure
