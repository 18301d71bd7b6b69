/- PathOrders, the plain part. -/
import Derived.Test.YtcmajhdgaeploaaDoorYPathIso
import Derived.Test.YtcmajhdgaeploaaDoorZPthOAll
import Derived.Test.YtcmajhdgaeploaaDoorQPthOx5
namespace Go.Proofs.YtcmajhdgaeploaaDoor.Pure
open Go.RowKit Go.Proofs.YtcmajhdgaeploaaDoor.QPthO Go.Proofs.YtcmajhdgaeploaaDoorW.PrintWords Go.Proofs.YtcmajhdgaeploaaDoorW.PrintLast
open Go Go.Proofs.YtcmajhdgaeploaaDoor.PathOrd
theorem works_told : garretlaw17_works.f 10 = some true := by decide +kernel
theorem sort_told (l : List ByteArray) (h1 : l.length ≤ 100000) (h2 : ∀ x ∈ l, x.size ≤ 2000000) : path_Sort.f l = some (isort l) := by
  unfold path_Sort.f
  exact if_pos ⟨h1, h2⟩
theorem PathOrders : garretlaw17_PathOrders.Pure := fun a b l _ _ _ => by
  unfold garretlaw17_PathOrders.f
  refine if_pos ⟨works_told, fun h1 h2 h3 h4 => ?_⟩
  have hz : ∀ x ∈ l, x.size ≤ 5000 := fun x hx => by
    obtain ⟨j, hj, rfl⟩ := List.getElem_of_mem hx
    have := h4 j hj
    rwa [List.getD_eq_getElem?_getD, List.getElem?_eq_getElem hj] at this
  have hK : garretlaw17_PathOrders.K = 1000001 := rfl
  have hlen : (isort l).length = l.length := (isort_perm l).length_eq
  obtain ⟨z, hzz⟩ := spoil_told garretlaw17_PathOrders.K (isort l) (by omega) (by omega)
  have w1 := within_told garretlaw17_PathOrders.K a b (by omega) (by omega) (by omega)
  have w2 := refWithin_told garretlaw17_PathOrders.K a b (by omega) (by omega) (by omega)
  generalize (if fore (parts a) (parts b) then (jnT ((parts b).drop (parts a).length), true) else ((⟨#[]⟩ : ByteArray), false)) = p at w1 w2
  obtain ⟨r2, ok⟩ := p
  exact ⟨isort l, r2, ok, _, z, sort_told l (by omega) (fun x hx => Nat.le_trans (hz x hx) (by omega)), w1, w2, less_told _ a b (by omega) (by omega) (by omega), refLess_told _ a b (by omega) (by omega) (by omega), refSort_told _ l h1 hz (by omega), same_told _ _ (by omega) (by omega), same_told _ _ (by omega) (by omega), hzz⟩
end Go.Proofs.YtcmajhdgaeploaaDoor.Pure
