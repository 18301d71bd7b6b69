/- SnapHolds, the plain part: two orders are one, and so are the groups. -/
import Derived.Test.YtfihbohdhcidbaaZSnpASnapRef
import Derived.Test.YtfihbohdhcidbaaQSnpAx3
namespace Go.Proofs.Ytfihbohdhcidbaa.Pure
open Go.RowKit Go.Proofs.Ytfihbohdhcidbaa.QSnpA Go.Proofs.YtfihbohdhcidbaaW.PrintWords Go.Proofs.YtfihbohdhcidbaaW.PrintLast
open Go Go.Proofs.Ytfihbohdhcidbaa.PathOrd
set_option linter.unusedVariables false
theorem works_told : garretlaw20_works.f = some true := by decide +kernel
theorem SnapHolds : garretlaw20_SnapHolds.Pure := by
  intro t h p g r q t' h' p' g' r' q' _ _ _ _ _ _ _ _ _ _ _ _ hB
  have p1 := len_sum p
  have p2 := len_sum g
  have p3 := len_sum p'
  have p4 := len_sum g'
  refine ⟨3000000, ?_⟩
  have e1 := order_told 3000000 t h p g r q t' h' p' g' r' q' (by omega) (by omega) (by omega) (by omega) (by omega)
  have e2 := refOrder_told 3000000 t h p g r q t' h' p' g' r' q' (by omega) (by omega) (by omega) (by omega) (by omega)
  have e3 := order_told 3000000 t' h' p' g' r' q' t h p g r q (by omega) (by omega) (by omega) (by omega) (by omega)
  have e4 := refOrder_told 3000000 t' h' p' g' r' q' t h p g r q (by omega) (by omega) (by omega) (by omega) (by omega)
  unfold garretlaw20_SnapHolds.f snap_Same.f garretref20_Same.f snap_Less.f garretref20_Less.f
  simp only [e1, e2, e3, e4, Option.bind_some, beq_self_eq_true, if_true]
  rw [group_told t h p g r q (by omega) (by omega), refGroup_told 3000000 t h p g r q (by omega) (by omega) (by omega), works_told]
  simp
end Go.Proofs.Ytfihbohdhcidbaa.Pure
