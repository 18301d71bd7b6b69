/- GearOwn, the plain part. -/
import Derived.Test.YtfhipccjnmfefaaDoorQGearx3
import Derived.Test.YtfhipccjnmfefaaDoorGearMore
namespace Go.Proofs.YtfhipccjnmfefaaDoor.Pure
open Go.RowKit Go.Proofs.YtfhipccjnmfefaaDoor.QGear Go.Proofs.YtfhipccjnmfefaaDoorW.PrintWords Go.Proofs.YtfhipccjnmfefaaDoorW.PrintLast Go.Proofs.YtfhipccjnmfefaaDoorW.PrintMore
set_option linter.unusedVariables false

theorem own_loop (b : Nat) (hb : b < 256) (s : ByteArray) (x0 x1 x2 : Int) (R : Option Bool) : ∀ (m c k : Nat), c + m = 256 →
    (∀ k', k ≤ k' + m + 1 → (if (s.size : Int) > 1000 then (garretlaw11_GearOwn.j1 k' s 0 true x0 x1 x2) else (garretlaw11_GearOwn.j1 k' s 0 ((0 : Int) != 0) x0 x1 x2)) = R) → m < k →
    garretlaw11_GearOwn.l0 k (b : Int) s (gear_of.s2 (b : Int)) 0 (c : Int) x0 x1 x2 = R := by
  intro m
  induction m with
  | zero =>
    intro c k hc hR hk
    obtain ⟨k, rfl⟩ : ∃ q, k = q + 1 := ⟨k - 1, by omega⟩
    simp only [garretlaw11_GearOwn.l0]
    rw [if_neg (by omega)]
    exact hR k (by omega)
  | succ m ih =>
    intro c k hc hR hk
    obtain ⟨k, rfl⟩ : ∃ q, k = q + 1 := ⟨k - 1, by omega⟩
    have hw : wrap64 ((c : Int) + 1) = ((c + 1 : Nat) : Int) := by unfold wrap64; omega
    have ht : ¬ (((gear_of.s2 (c : Int) == gear_of.s2 (b : Int)) != ((c : Int) == (b : Int))) = true) := by
      by_cases e : c = b
      · subst e; simp
      · have h1 : gear_of.s2 (c : Int) ≠ gear_of.s2 (b : Int) := fun h => e (of_inj (by omega) hb h)
        have h2 : (c : Int) ≠ (b : Int) := by omega
        rw [beq_eq_false_iff_ne.2 h1, beq_eq_false_iff_ne.2 h2]
        simp
    simp only [garretlaw11_GearOwn.l0]
    rw [if_pos (by omega), bnd (gear_told c (by omega)), if_pos rfl, if_neg ht, hw]
    exact ih (c + 1) k (by omega) (fun k' hk' => hR k' (by omega)) (by omega)

theorem GearOwn : garretlaw11_GearOwn.Pure := by
  intro a0 n0 n1 n2 s h0 h1 h2 h3 hs
  obtain ⟨k, hk⟩ : ∃ k : Nat, k = 40000 := ⟨_, rfl⟩
  refine ⟨k, ?_⟩
  obtain ⟨b, hb, b0, b1⟩ := among_told a0 256 (wf_i64 h0).1 (wf_i64 h0).2 (by decide) (by decide)
  obtain ⟨b, rfl⟩ := Int.eq_ofNat_of_zero_le b0
  obtain ⟨x0, y, x2, hsu, hx⟩ := setup_told n0 n1 n2 h1 h2 h3
  unfold garretlaw11_GearOwn.f
  rw [bnd (works_told (by omega)), if_pos rfl, bnd hb, bnd (gear_told b (by omega))]
  refine own_loop b (by omega) s n0 n1 n2 (some true) 256 0 k (by omega) ?_ (by omega)
  intro k' hk'
  by_cases c : (s.size : Int) > 1000
  · rw [if_pos c]
    obtain ⟨k', rfl⟩ : ∃ q, k' = q + 1 := ⟨k' - 1, by omega⟩
    simp [garretlaw11_GearOwn.j1]
  · rw [if_neg c]
    obtain ⟨k', rfl⟩ : ∃ q, k' = q + 1 := ⟨k' - 1, by omega⟩
    have c1 := chunks_told hx s (by omega) (k := k') (by omega)
    have hu : (s ++ (⟨#[109, 111, 114, 101]⟩ : ByteArray)).size = s.size + 4 := by rw [size_append]; rfl
    have c2 := chunks_told hx (s ++ (⟨#[109, 111, 114, 101]⟩ : ByteArray)) (by omega) (k := k') (by omega)
    simp only [garretlaw11_GearOwn.j1]
    rw [if_neg (by simp), bnd hsu]
    dsimp only
    rw [bnd c1, if_pos (by omega), bnd c2]
    dsimp only
    rw [if_pos rfl, if_pos rfl]
    by_cases e : s.size = 0
    · rw [cut_nil _ _ _ s e, if_pos (by simp)]
    · obtain ⟨pre, l, p1, p2, p3⟩ := cut_behind hx (⟨#[109, 111, 114, 101]⟩ : ByteArray) s.size s (Nat.le_refl _) e
      have hl := cut_length hx s.size s (Nat.le_refl _)
      have hc : 1 ≤ (cut x0 y x2 (l ++ (⟨#[109, 111, 114, 101]⟩ : ByteArray))).length := by
        rw [cut_cons hx _ (by rw [size_append]; omega), List.length_cons]; omega
      rw [p1] at hl ⊢
      rw [p3]
      generalize cut x0 y x2 (l ++ (⟨#[109, 111, 114, 101]⟩ : ByteArray)) = m at *
      simp only [List.length_append, List.length_singleton] at hl
      have hw : wrap64 (((pre ++ [l]).length : Int) - 1) = (pre.length : Int) := by rw [List.length_append, List.length_singleton]; unfold wrap64; omega
      rw [hw, if_neg (by rw [List.length_append, List.length_singleton]; omega), if_pos (by rw [List.length_append, List.length_append, List.length_singleton]; omega), if_pos (by omega), if_pos (by rw [List.length_append]; omega), if_pos (by rw [List.length_append]; omega), Int.toNat_natCast]
      rw [List.take_left, List.take_left, bnd (same_refl pre (by omega) (by omega))]

end Go.Proofs.YtfhipccjnmfefaaDoor.Pure
