/- CivilNext, the plain part: the day behind a time is the next one of its month, or the first one of the next month, or year. -/
import Derived.Test.YtcmajhdgaeploaaDoorQCivx4
import Derived.Test.YtcmajhdgaeploaaDoorYCivTold
namespace Go.Proofs.YtcmajhdgaeploaaDoor.Pure
open Go.RowKit Go.Proofs.YtcmajhdgaeploaaDoor.QCiv Go.Proofs.YtcmajhdgaeploaaDoorW.PrintWords Go.Proofs.YtcmajhdgaeploaaDoorW.PrintLast Go.Proofs.YtcmajhdgaeploaaDoor.Civ
set_option linter.unusedVariables false

theorem CivilNext : garretlaw21_CivilNext.Pure := by
  intro a0 hwf
  obtain ⟨t, ht, t0, t1⟩ := among_told a0 1099511541376 (wf_i64 hwf).1 (wf_i64 hwf).2 (by decide) (by decide)
  obtain ⟨n, hn⟩ : ∃ n, n = 400000 := ⟨_, rfl⟩
  obtain ⟨y, m, d, h⟩ := date_there t0
  have hy := h.year_le
  have hday : dayOf (t + 86400) = dayOf t + 1 := by unfold dayOf; omega
  have hx := h.next
  rw [← hday] at hx
  have hd : dayOf t ≤ 13450000 := by unfold dayOf; omega
  refine ⟨n + 1, ?_⟩
  unfold garretlaw21_CivilNext.f
  rw [bnd (works_told (by omega))]
  rw [if_pos rfl, bnd ht, w64 (x := t + 86400) (by omega) (by omega)]
  rw [bnd (of_told t0 (by omega) h (by omega)), bnd (of_told (t := t + 86400) (by omega) (by omega) hx (by omega))]
  rw [bnd (days_told (y := y) (m := m) (by have := h.1; omega) h.2.1 h.2.2.1)]
  rw [if_pos rfl, if_pos rfl]
  have h1 := h.1
  have h2 := h.2.1
  have h3 := h.2.2.1
  have h4 := h.2.2.2.1
  have h5 := h.2.2.2.2.1
  have e1 : (t + 86400) % 86400 = t % 86400 := by omega
  have e2 : (t + 86400) % 60 = t % 60 := by omega
  have e3 : ((t + 86400) / 86400 + 3) % 7 + 1 = ((t / 86400 + 3) % 7 + 1) % 7 + 1 := by omega
  rw [e1, e2, e3]
  have hm := mdays_bounds y m
  simp only [garretlaw21_CivilNext.j0]
  rw [if_neg (by decide), w64 (x := d + 1) (by omega) (by omega), w64 (x := m + 1) (by omega) (by omega), w64 (x := y + 1) (by omega) (by omega), tmod_pos (a := (t / 86400 + 3) % 7 + 1) (by omega), w64 (x := ((t / 86400 + 3) % 7 + 1) % 7 + 1) (by omega) (by omega)]
  have hend : ∀ (b : Bool), b = true → (if b = true then (if d ≥ 1 then (if d ≤ mdays y m then (if (t / 86400 + 3) % 7 + 1 ≥ 1 then (some (decide ((t / 86400 + 3) % 7 + 1 ≤ 7))) else none) else none) else none) else none) = some true := by
    intro b hb
    rw [if_pos hb, if_pos h4, if_pos h5, if_pos (by omega), decide_eq_true (by omega)]
  by_cases c : d < mdays y m
  · rw [if_neg (show ¬ d + 1 > mdays y m by omega), if_neg (show ¬ m > 12 by omega)]
    rw [if_pos c, if_pos c, if_pos c]
    exact hend _ (by simp)
  · rw [if_pos (show d + 1 > mdays y m by omega)]
    rw [if_neg c, if_neg c, if_neg c]
    by_cases e : m < 12
    · rw [if_neg (show ¬ m + 1 > 12 by omega)]
      rw [if_pos e, if_pos e]
      exact hend _ (by simp)
    · rw [if_pos (show m + 1 > 12 by omega)]
      rw [if_neg e, if_neg e]
      exact hend _ (by simp)
end Go.Proofs.YtcmajhdgaeploaaDoor.Pure
