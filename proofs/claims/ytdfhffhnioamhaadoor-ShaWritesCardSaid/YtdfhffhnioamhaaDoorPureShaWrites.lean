/- ShaWrites, the plain part: the example holds. -/
import Derived.Test.YtdfhffhnioamhaaDoorQShaFx2
namespace Go.Proofs.YtdfhffhnioamhaaDoor.Pure
open Go.RowKit Go.Proofs.YtdfhffhnioamhaaDoor.QShaF Go.Proofs.YtdfhffhnioamhaaDoorW.PrintWords Go.Proofs.YtdfhffhnioamhaaDoorW.PrintLast
set_option maxRecDepth 100000
theorem works_told : garretlaw02_works.f = some true := by decide +kernel
theorem ShaWrites : garretlaw02_ShaWrites.Pure := by
  intro l _
  unfold garretlaw02_ShaWrites.f
  rw [if_pos works_told]
end Go.Proofs.YtdfhffhnioamhaaDoor.Pure
