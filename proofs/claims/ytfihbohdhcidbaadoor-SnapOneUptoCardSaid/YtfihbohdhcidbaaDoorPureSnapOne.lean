/- SnapOne, the plain part: the order of snapshots is one; groups are alike just where host and paths are. -/
import Derived.Test.YtfihbohdhcidbaaDoorZSnpOSnapLex
import Derived.Test.YtfihbohdhcidbaaDoorZSnpOSnapGrp
import Derived.Test.YtfihbohdhcidbaaDoorQSnpOx5
namespace Go.Proofs.YtfihbohdhcidbaaDoor.Pure
open Go.RowKit Go.Proofs.YtfihbohdhcidbaaDoor.QSnpO Go.Proofs.YtfihbohdhcidbaaDoorW.PrintWords Go.Proofs.YtfihbohdhcidbaaDoorW.PrintLast
open Go Go.Proofs.YtfihbohdhcidbaaDoor.PathOrd
set_option linter.unusedVariables false
set_option maxRecDepth 100000
theorem works_told : garretlaw20_works.f = some true := by decide +kernel
theorem SnapOne : garretlaw20_SnapOne.Pure := by
  intro t h p g r q t' h' p' g' r' q' u i a b c d _ _ _ _ _ _ _ _ _ _ _ _ _ _ _ _ _ _ hB
  have p1 := slen_sum p
  have p2 := slen_sum g
  have p3 := slen_sum p'
  have p4 := slen_sum g'
  have p5 := slen_sum a
  have p6 := slen_sum b
  have m1 : ∀ x ∈ p, x.size ≤ 1500000 := fun x hx => by have := smem_sum hx; omega
  have m2 : ∀ x ∈ g, x.size ≤ 140737488351232 := fun x hx => by have := smem_sum hx; omega
  have m3 : ∀ x ∈ p', x.size ≤ 1500000 := fun x hx => by have := smem_sum hx; omega
  have m4 : ∀ x ∈ g', x.size ≤ 140737488351232 := fun x hx => by have := smem_sum hx; omega
  refine ⟨3000003, ?_⟩
  have L : ∀ k, 3000000 ≤ k → ∀ t h p g r q t' h' p' g' r' q', p.length ≤ 2000000 → g.length ≤ 2000000 → snap_Less.f k t h p g r q t' h' p' g' r' q' = some (decide (ordP (t, h, p, g, r, q) (t', h', p', g', r', q') < 0)) := fun k hk t h p g r q t' h' p' g' r' q' e1 e2 => by
    unfold snap_Less.f
    rw [order_told k t h p g r q t' h' p' g' r' q' (by omega) (by omega) (by omega) (by omega) (by omega), ordS_P]
    rfl
  have S : ∀ k, 3000000 ≤ k → ∀ t h p g r q t' h' p' g' r' q', p.length ≤ 2000000 → g.length ≤ 2000000 → snap_Same.f k t h p g r q t' h' p' g' r' q' = some (ordP (t, h, p, g, r, q) (t', h', p', g', r', q') == 0) := fun k hk t h p g r q t' h' p' g' r' q' e1 e2 => by
    unfold snap_Same.f
    rw [order_told k t h p g r q t' h' p' g' r' q' (by omega) (by omega) (by omega) (by omega) (by omega), ordS_P]
    rfl
  have j2 : ∀ x : Bool, (x = false → chkB t h p g r q = true ∧ chkB t' h' p' g' r' q' = true) → garretlaw20_SnapOne.j2 3000001 x t h p g r q t' h' p' g' r' q' = some true := fun x hx => by
    rw [garretlaw20_SnapOne.j2]
    cases x with
    | true => rfl
    | false =>
      rw [if_neg (by decide)]
      obtain ⟨h1, h2⟩ := hx rfl
      obtain ⟨_, w1, b1, _, _, _⟩ := chk_parts h1
      obtain ⟨_, w2, b2, _, _, _⟩ := chk_parts h2
      rw [sgroup_told t h p g r q (by omega) (by omega), sgroup_told t' h' p' g' r' q' (by omega) (by omega)]
      simp only [Option.bind_some]
      have G := groups_alike w1 w2 b1 b2
      have hT : ∀ l m : List UInt8, ((⟨l.toArray⟩ : ByteArray).toList == (⟨m.toArray⟩ : ByteArray).toList) = decide (l = m) := fun l m => by
        rw [ByteArray.toList_eq, ByteArray.toList_eq]
        by_cases e : l = m
        · rw [decide_eq_true e, e]; simp
        · rw [decide_eq_false e, beq_eq_false_iff_ne]; exact e
      rw [hT]
      by_cases e : h = h'
      · subst e
        rw [if_pos rfl, sameTexts_told _ p p' (by omega) (by omega), Option.bind_some]
        by_cases e2 : p = p'
        · rw [decide_eq_true e2, decide_eq_true (G.2 ⟨rfl, e2⟩)]; rfl
        · rw [decide_eq_false e2, decide_eq_false (fun x => e2 (G.1 x).2)]; rfl
      · rw [if_neg (fun x => e (eq_of_list (by rwa [ByteArray.toList_eq, ByteArray.toList_eq] at x))), decide_eq_false (fun x => e (G.1 x).1)]
        rfl
  have j1 : garretlaw20_SnapOne.j1 3000002 false t h p g r q t' h' p' g' r' q' = some true := by
    rw [garretlaw20_SnapOne.j1, if_neg (by decide), check_told 3000001 t h p g r q (by omega) m1 m2 (by omega), Option.bind_some]
    cases h1 : chkB t h p g r q with
    | false =>
      rw [if_neg (by decide)]
      exact j2 true (fun e => by cases e)
    | true =>
      rw [if_pos rfl, if_pos rfl, check_told 3000001 t' h' p' g' r' q' (by omega) m3 m4 (by omega), Option.bind_some]
      cases h2 : chkB t' h' p' g' r' q' with
      | false => exact j2 true (fun e => by cases e)
      | true => exact j2 false (fun _ => ⟨h1, h2⟩)
  have j0 : garretlaw20_SnapOne.j0 3000003 (decide (ordP (t, h, p, g, r, q) (t', h', p', g', r', q') < 0)) false t h p g r q t' h' p' g' r' q' u i a b c d = some true := by
    rw [garretlaw20_SnapOne.j0, if_neg (by decide)]
    by_cases e1 : ordP (t, h, p, g, r, q) (t', h', p', g', r', q') < 0
    · rw [if_pos (decide_eq_true e1), L _ (by omega) _ _ _ _ _ _ _ _ _ _ _ _ (by omega) (by omega), Option.bind_some]
      by_cases e2 : ordP (t', h', p', g', r', q') (u, i, a, b, c, d) < 0
      · rw [if_pos (decide_eq_true e2), L _ (by omega) _ _ _ _ _ _ _ _ _ _ _ _ (by omega) (by omega), Option.bind_some, decide_eq_true (cmp_P.trans _ _ _ e1 e2)]
        exact j1
      · rw [if_neg (by rw [decide_eq_false e2]; decide)]
        exact j1
    · rw [if_neg (by rw [decide_eq_false e1]; decide)]
      exact j1
  have sw := cmp_P.swap (t, h, p, g, r, q) (t', h', p', g', r', q')
  have se := cmp_P.self (t, h, p, g, r, q)
  rw [garretlaw20_SnapOne.f, works_told]
  simp only [Option.bind_some, if_true]
  rw [L _ (by omega) t h p g r q t' h' p' g' r' q' (by omega) (by omega), L _ (by omega) t' h' p' g' r' q' t h p g r q (by omega) (by omega), L _ (by omega) t h p g r q t h p g r q (by omega) (by omega), S _ (by omega) t h p g r q t' h' p' g' r' q' (by omega) (by omega), S _ (by omega) t h p g r q t h p g r q (by omega) (by omega)]
  simp only [Option.bind_some]
  rw [se, sw]
  by_cases e1 : ordP (t, h, p, g, r, q) (t', h', p', g', r', q') < 0
  · have z1 : ¬ (- ordP (t, h, p, g, r, q) (t', h', p', g', r', q') < 0) := by omega
    have z2 : (ordP (t, h, p, g, r, q) (t', h', p', g', r', q') == 0) = false := beq_eq_false_iff_ne.2 (by omega)
    rw [if_pos (decide_eq_true e1), if_neg (by rw [decide_eq_false z1]; decide), z2, if_neg (by decide), if_neg (by decide)]
    exact j0
  · rw [if_neg (by rw [decide_eq_false e1]; decide)]
    rw [if_neg, if_neg (by decide)]
    · exact j0
    · by_cases e2 : ordP (t, h, p, g, r, q) (t', h', p', g', r', q') = 0
      · rw [e2]; decide
      · rw [decide_eq_true (show - ordP (t, h, p, g, r, q) (t', h', p', g', r', q') < 0 by omega), beq_eq_false_iff_ne.2 e2]
        decide
end Go.Proofs.YtfihbohdhcidbaaDoor.Pure
