/- CivilYears, the plain part: the months of a year are 365 or 366 days; so long is it from its first second to the next one's; four hundred years have 146097 days. -/
import Derived.Test.YtcmajhdgaeploaaDoorQCivx5
import Derived.Test.YtcmajhdgaeploaaDoorYCivUnix
namespace Go.Proofs.YtcmajhdgaeploaaDoor.Pure
open Go.RowKit Go.Proofs.YtcmajhdgaeploaaDoor.QCiv Go.Proofs.YtcmajhdgaeploaaDoorW.PrintWords Go.Proofs.YtcmajhdgaeploaaDoorW.PrintLast Go.Proofs.YtcmajhdgaeploaaDoor.Civ
set_option linter.unusedVariables false

theorem first_day (y : Int) (h : 1 ≤ y) : IsDay (bef y) y 1 1 := ⟨h, by decide, by decide, by decide, by have := mdays_bounds y 1; omega, by rw [cum_one]; omega⟩
theorem unix_first {y : Int} (h0 : 1970 ≤ y) (h1 : y ≤ 36000) {k : Nat} (hk : 300100 ≤ k) : civil_Unix.f k y 1 1 0 0 0 0 = some ((bef y - 719162) * 86400, 0) := by
  have h2 := bef_mono h0
  rw [bef_1970] at h2
  have h3 := bef_mono h1
  have h4 : bef 36000 = 13148364 := by decide
  have h := unix_told (y := y) (m := 1) (d := 1) (h := 0) (mi := 0) (s := 0) (wd := 0) h0 (by omega) (first_day y (by omega)) (by decide) (by decide) (by decide) (by decide) (by decide) (by decide) (k := k) hk
  rw [h, if_pos (by omega)]
  congr 2
  omega
theorem years_l0 {y : Int} (h0 : 1970 ≤ y) (h1 : y ≤ 32000) : ∀ (j k : Nat) (i x : Int), 1 ≤ i → i + j = 13 → x = cum y i → j + 400000 < k → garretlaw21_CivilYears.l0 k y x i = some true := by
  intro j
  induction j with
  | zero =>
    intro k i x hi hij hx hk
    obtain ⟨k, rfl⟩ : ∃ q, k = q + 1 := ⟨k - 1, by omega⟩
    obtain rfl : i = 13 := by omega
    rw [cum_all] at hx
    have hs := bef_succ y
    have hc := bef_cycle y
    have h2 := bef_mono h0
    rw [bef_1970] at h2
    have h3 := bef_mono h1
    have h4 : bef 32000 = 11687394 := by decide
    simp only [garretlaw21_CivilYears.l0]
    rw [if_neg (by decide), bnd (leap_told (by omega)), w64 (x := y + 1) (by omega) (by omega), w64 (x := y + 400) (by omega) (by omega)]
    rcases lp_01 y with e | e
    · rw [e] at hx hs
      rw [e, if_neg (by decide)]
      rw [bnd (unix_first h0 (by omega) (by omega)), bnd (unix_first (y := y + 1) (by omega) (by omega) (by omega)), bnd (unix_first (y := y + 400) (by omega) (by omega) (by omega))]
      rw [if_pos (by omega), if_pos rfl, if_pos rfl, if_pos rfl, w64 (by omega) (by omega), if_pos (by show (bef (y + 1) - 719162) * 86400 - (bef y - 719162) * 86400 = _; omega), w64 (by show _ ≤ (bef (y + 400) - 719162) * 86400 - (bef y - 719162) * 86400; omega) (by show (bef (y + 400) - 719162) * 86400 - (bef y - 719162) * 86400 ≤ _; omega)]
      have : (bef (y + 400) - 719162) * 86400 - (bef y - 719162) * 86400 = 12622780800 := by omega
      show some ((bef (y + 400) - 719162) * 86400 - (bef y - 719162) * 86400 == 12622780800) = _
      rw [this]; rfl
    · rw [e] at hx hs
      rw [e, if_pos (by decide)]
      rw [bnd (unix_first h0 (by omega) (by omega)), bnd (unix_first (y := y + 1) (by omega) (by omega) (by omega)), bnd (unix_first (y := y + 400) (by omega) (by omega) (by omega))]
      rw [if_pos (by omega), if_pos rfl, if_pos rfl, if_pos rfl, w64 (by omega) (by omega), if_pos (by show (bef (y + 1) - 719162) * 86400 - (bef y - 719162) * 86400 = _; omega), w64 (by show _ ≤ (bef (y + 400) - 719162) * 86400 - (bef y - 719162) * 86400; omega) (by show (bef (y + 400) - 719162) * 86400 - (bef y - 719162) * 86400 ≤ _; omega)]
      have : (bef (y + 400) - 719162) * 86400 - (bef y - 719162) * 86400 = 12622780800 := by omega
      show some ((bef (y + 400) - 719162) * 86400 - (bef y - 719162) * 86400 == 12622780800) = _
      rw [this]; rfl
  | succ j ih =>
    intro k i x hi hij hx hk
    obtain ⟨k, rfl⟩ : ∃ q, k = q + 1 := ⟨k - 1, by omega⟩
    have hs := cum_succ y i hi (by omega)
    have := mdays_bounds y i
    have := cum_mono y 1 i (by omega) (by omega) (by omega)
    have := cum_mono y i 13 (by omega) (by omega) (by omega)
    have := cum_one y
    have := cum_all y
    have := lp_01 y
    simp only [garretlaw21_CivilYears.l0]
    rw [if_pos (by omega), bnd (days_told (by omega) hi (by omega)), if_pos rfl, w64 (x := i + 1) (by omega) (by omega), w64 (by show _ ≤ x + mdays y i; omega) (by show x + mdays y i ≤ _; omega)]
    exact ih k (i + 1) _ (by omega) (by omega) (by show x + mdays y i = _; omega) (by omega)
theorem CivilYears : garretlaw21_CivilYears.Pure := by
  intro a0 hwf
  obtain ⟨t, ht, t0, t1⟩ := among_told a0 30000 (wf_i64 hwf).1 (wf_i64 hwf).2 (by decide) (by decide)
  obtain ⟨n, hn⟩ : ∃ n, n = 500000 := ⟨_, rfl⟩
  refine ⟨n, ?_⟩
  unfold garretlaw21_CivilYears.f
  rw [bnd (works_told (by omega))]
  rw [if_pos rfl, bnd ht, w64 (x := 1970 + t) (by omega) (by omega)]
  exact years_l0 (by omega) (by omega) 12 n 1 0 (by decide) (by decide) (by rw [cum_one]) (by omega)
end Go.Proofs.YtcmajhdgaeploaaDoor.Pure
