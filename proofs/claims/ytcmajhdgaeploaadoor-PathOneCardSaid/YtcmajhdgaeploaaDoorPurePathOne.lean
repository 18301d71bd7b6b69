/- PathOne, the plain part: the order of paths is that of their parts, and it is one. -/
import Derived.Test.YtcmajhdgaeploaaDoorZPthAPathTold
import Derived.Test.YtcmajhdgaeploaaDoorQPthAx2
namespace Go.Proofs.YtcmajhdgaeploaaDoor.Pure
open Go.RowKit Go.Proofs.YtcmajhdgaeploaaDoor.QPthA Go.Proofs.YtcmajhdgaeploaaDoorW.PrintWords Go.Proofs.YtcmajhdgaeploaaDoorW.PrintLast
open Go Go.Proofs.YtcmajhdgaeploaaDoor.PathOrd
set_option maxRecDepth 100000
set_option linter.unusedSimpArgs false
theorem works_told : garretlaw17_works.f 10 = some true := by decide +kernel
theorem works_more (k : Nat) (h : 10 ≤ k) : garretlaw17_works.f k = some true := by
  obtain ⟨j, rfl⟩ := Nat.exists_eq_add_of_le h
  induction j with
  | zero => exact works_told
  | succ j ih => exact garretlaw17_works.mono _ _ (ih (by omega))
theorem j0_true (k : Nat) (a b c : ByteArray) : garretlaw17_PathOne.j0 (k + 1) a b c true = some true := by
  unfold garretlaw17_PathOne.j0
  simp
theorem PathOne : garretlaw17_PathOne.Pure := fun a b c _ _ _ => ⟨6002, by
  unfold garretlaw17_PathOne.f
  rw [works_more _ (by omega)]
  simp only [Option.bind_some, if_true]
  by_cases ha : (a.size : Int) > 5000
  · rw [if_pos ha]; exact j0_true _ a b c
  rw [if_neg ha]
  by_cases hb : (b.size : Int) > 5000
  · rw [if_pos hb]; exact j0_true _ a b c
  rw [if_neg hb]
  by_cases hc : (c.size : Int) > 5000
  · rw [decide_eq_true hc]; exact j0_true _ a b c
  rw [decide_eq_false hc]
  have l : ∀ x y : ByteArray, x.size ≤ 5000 → ∀ k, 5002 ≤ k → y.size ≤ 5000 → path_Less.f k x y = some (decide (cmpL (parts x) (parts y) < 0)) := fun x y hx k hk hy => less_told k x y (by omega) (by omega) (by omega)
  rw [show garretlaw17_PathOne.j0 6002 a b c false = garretlaw17_PathOne.j0 (6001 + 1) a b c false from rfl]
  unfold garretlaw17_PathOne.j0
  simp only [Bool.false_eq_true, if_false]
  rw [l a b (by omega) 6001 (by omega) (by omega), l b a (by omega) 6001 (by omega) (by omega), l a a (by omega) 6001 (by omega) (by omega)]
  simp only [Option.bind_some, cmpL_self]
  have hs := cmpL_swap (parts a) (parts b)
  have j1 : ∀ x48 : Bool, x48 = false → garretlaw17_PathOne.j1 6001 a b c (decide (cmpL (parts a) (parts b) < 0)) x48 = some true := by
    rintro _ rfl
    rw [show (6001 : Nat) = 6000 + 1 from rfl]
    unfold garretlaw17_PathOne.j1
    simp only [Bool.false_eq_true, if_false]
    by_cases h1 : cmpL (parts a) (parts b) < 0
    · rw [decide_eq_true h1]
      simp only [if_true]
      rw [l b c (by omega) 6000 (by omega) (by omega), l a c (by omega) 6000 (by omega) (by omega)]
      simp only [Option.bind_some]
      by_cases h2 : cmpL (parts b) (parts c) < 0
      · rw [decide_eq_true h2]
        simp only [if_true]
        rw [decide_eq_true (cmpL_trans _ _ _ h1 h2)]
      · rw [decide_eq_false h2]
        simp
    · rw [decide_eq_false h1]
      simp
  by_cases h1 : cmpL (parts a) (parts b) < 0
  · have h2 : ¬ cmpL (parts b) (parts a) < 0 := by omega
    rw [if_pos (decide_eq_true h1), if_neg (by rw [decide_eq_false h2]; simp)]
    rw [if_neg (by simp)]
    refine j1 _ ?_
    have hne : ¬ a = b := fun e => by subst e; rw [cmpL_self] at h1; omega
    have hnl : (a.toList == b.toList) = false := by
      rw [beq_eq_false_iff_ne]
      intro e
      rw [ByteArray.toList_eq, ByteArray.toList_eq] at e
      exact hne (eq_of_list e)
    rw [hnl]
    rfl
  · rw [if_neg (by rw [decide_eq_false h1]; simp)]
    rw [if_neg (by simp)]
    refine j1 _ ?_
    by_cases h2 : cmpL (parts b) (parts a) < 0
    · have hne : ¬ a = b := fun e => by subst e; rw [cmpL_self] at h2; omega
      have hnl : (a.toList == b.toList) = false := by
        rw [beq_eq_false_iff_ne]
        intro e
        rw [ByteArray.toList_eq, ByteArray.toList_eq] at e
        exact hne (eq_of_list e)
      rw [hnl, decide_eq_true h2]
      rfl
    · have he : a = b := parts_inj (cmpL_zero (by omega))
      subst he
      rw [decide_eq_false h2, beq_self_eq_true]
      rfl⟩
end Go.Proofs.YtcmajhdgaeploaaDoor.Pure
