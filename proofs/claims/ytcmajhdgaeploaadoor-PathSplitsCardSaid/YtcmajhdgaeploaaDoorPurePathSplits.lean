/- PathSplits, the plain part: both answers are told, and the same. -/
import Derived.Test.YtcmajhdgaeploaaDoorZPthSPathRef
import Derived.Test.YtcmajhdgaeploaaDoorQPthSx4
namespace Go.Proofs.YtcmajhdgaeploaaDoor.Pure
open Go.RowKit Go.Proofs.YtcmajhdgaeploaaDoor.QPthS Go.Proofs.YtcmajhdgaeploaaDoorW.PrintWords Go.Proofs.YtcmajhdgaeploaaDoorW.PrintLast
open Go Go.Proofs.YtcmajhdgaeploaaDoor.PathOrd
set_option maxRecDepth 100000
set_option linter.unusedSimpArgs false
theorem works_told : garretlaw17_works.f 10 = some true := by decide +kernel
theorem good (k : Nat) (hk : 1000000 < k) (p : ByteArray) (L : List ByteArray) (hp : p.size ≤ 100000) (hL : L.length ≤ 5000) : ∃ r1 r2 j1 j2 p1 p2 p3 nb z,
    path_Split.f k p = some (r1, r2) ∧ garretref17_Split.f k p = some (r1, r2) ∧ path_Join.f k L = some (j1, j2) ∧ garretref17_Join.f k L = some (j1, j2) ∧ path_Parent.f k p = some (p1, p2, p3) ∧ garretref17_Parent.f k p = some (p1, p2, p3) ∧ path_IsName.f k p = some nb ∧ garretref17_IsName.f k p = some nb ∧ garretbook_SameTexts.f k r1 r1 = some true ∧ garretbook_SameTexts.f k L L = some true ∧ garretbook_SpoilTexts.f k r1 = some z := by
  have hl := parts_len p
  have s1 := splitf_told k p (by omega) (by omega)
  have s2 := refSplit_told k p (by omega) (by omega)
  have i1 : path_IsName.f k p = some (nameB p) := by
    obtain ⟨k, rfl⟩ : ∃ q, k = q + 1 := ⟨k - 1, by omega⟩
    exact isName_told k p
  have p1 := parent_told k p (by omega) (by omega)
  have p2 := refParent_told k p (by omega) (by omega)
  have j1 := joinf_told k L (by omega) (fun hb => by have := all_total L (isB_all hb); omega) (by omega)
  have j2 := refJoin_told k L (by omega) (by omega)
  generalize hS : (if isB (parts p) = true then (parts p, (0 : Int)) else ([], 170)) = S at s1 s2
  have hSl : S.1.length ≤ 200000 := by
    rw [← hS]
    split
    · show (parts p).length ≤ _; omega
    · simp
  generalize (if isB L = true then (jnT L, (0 : Int)) else (⟨#[]⟩, 170)) = J at j1 j2
  generalize (if isB (parts p) = true then (jnT ((parts p).take ((parts p).length - 1)), (parts p).getD ((parts p).length - 1) ByteArray.empty, (0 : Int)) else (⟨#[]⟩, ⟨#[]⟩, 170)) = P at p1 p2
  obtain ⟨z, hz⟩ := spoil_told k S.1 (by omega) (by omega)
  exact ⟨S.1, S.2, J.1, J.2, P.1, P.2.1, P.2.2, nameB p, z, s1, s2, j1, j2, p1, p2, i1, refIsName_told k p (by omega), same_told k _ (by omega) (by omega), same_told k _ (by omega) (by omega), hz⟩
theorem PathSplits : garretlaw17_PathSplits.Pure := fun p L _ _ => by
  unfold garretlaw17_PathSplits.f
  rw [if_pos]
  refine ⟨works_told, fun h1 h2 => ?_⟩
  have h := good garretlaw17_PathSplits.K (by decide) p L h1 h2
  exact h
end Go.Proofs.YtcmajhdgaeploaaDoor.Pure
