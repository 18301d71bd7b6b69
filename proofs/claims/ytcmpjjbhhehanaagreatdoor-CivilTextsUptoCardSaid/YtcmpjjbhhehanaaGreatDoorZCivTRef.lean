/- What the document's functions of the dates tell. -/
import Derived.Test.YtcmpjjbhhehanaaGreatDoorQCivTx10
import Derived.Test.YtcmpjjbhhehanaaGreatDoorZCivTUnix
namespace Go.Proofs.YtcmpjjbhhehanaaGreatDoor.Civ
open Go.RowKit Go.Proofs.YtcmpjjbhhehanaaGreatDoor.QCivT Go.Proofs.YtcmpjjbhhehanaaGreatDoorW.PrintWords Go.Proofs.YtcmpjjbhhehanaaGreatDoorW.PrintLast Go.Proofs.YtcmpjjbhhehanaaGreatDoorW.PrintMore
set_option linter.unusedVariables false

theorem tmod_dvd {a b : Int} : Int.tmod a b = 0 ↔ b ∣ a := Int.dvd_iff_tmod_eq_zero.symm
theorem rleap_same (y : Int) : garretref21_Leap.f y = civil_Leap.f y := by
  unfold garretref21_Leap.f civil_Leap.f
  by_cases a : Int.tmod y 4 = 0
  · rw [if_pos a, if_pos a]
  · rw [if_neg a, if_neg a]
    have : ¬ Int.tmod y 400 = 0 := fun z => a (tmod_dvd.2 (Int.dvd_trans (by decide) (tmod_dvd.1 z)))
    have h : (Int.tmod y 400 == 0) = false := by simpa using this
    rw [h]
theorem ryear_told {y : Int} (h : 0 ≤ y) : garretref21_year.f y = some (365 + lp y) := by
  unfold garretref21_year.f
  rw [rleap_same, bnd (leap_told h)]
  rcases lp_01 y with e | e
  · rw [e]; rfl
  · rw [e]; rfl
theorem rdays_j0 (k : Nat) (y m : Int) : garretref21_days.j0 (k + 1) y m true = some 30 := by
  simp only [garretref21_days.j0]
  rfl
theorem rdays_told {y m : Int} (h : 0 ≤ y) {k : Nat} (hk : 0 < k) : garretref21_days.f k y m = some (mdays y m) := by
  obtain ⟨k, rfl⟩ : ∃ q, k = q + 1 := ⟨k - 1, by omega⟩
  unfold garretref21_days.f mdays
  by_cases c4 : m = 4
  · subst c4
    rw [if_pos rfl, if_neg (by decide), if_pos (Or.inl rfl)]
    exact rdays_j0 k y 4
  · rw [if_neg c4]
    by_cases c6 : m = 6
    · subst c6
      rw [if_pos rfl, if_neg (by decide), if_pos (Or.inr (Or.inl rfl))]
      exact rdays_j0 k y 6
    · rw [if_neg c6]
      by_cases c9 : m = 9
      · subst c9
        rw [if_pos rfl, if_neg (by decide), if_pos (Or.inr (Or.inr (Or.inl rfl)))]
        exact rdays_j0 k y 9
      · rw [if_neg c9]
        by_cases c11 : m = 11
        · subst c11
          rw [if_neg (by decide), if_pos (Or.inr (Or.inr (Or.inr rfl)))]
          exact rdays_j0 k y 11
        · have e : (m == 11) = false := by simpa using c11
          rw [e]
          simp only [garretref21_days.j0]
          rw [if_neg (by decide)]
          by_cases c2 : m = 2
          · rw [if_pos c2, if_pos c2, rleap_same, bnd (leap_told h)]
            rcases lp_01 y with e | e
            · rw [e]; rfl
            · rw [e]; rfl
          · rw [if_neg c2, if_neg c2, if_neg (by omega)]
theorem ris_yes {t : Int} (h0 : 0 ≤ t) (h1 : t ≤ 1099511627776) : garretref21_is.f t = some true := by
  unfold garretref21_is.f
  rw [if_pos h0, decide_eq_true h1]
theorem ris_no {t : Int} (h : ¬ (0 ≤ t ∧ t ≤ 1099511627776)) : garretref21_is.f t = some false := by
  unfold garretref21_is.f
  by_cases c : t ≥ 0
  · rw [if_pos c, decide_eq_false (by omega)]
  · rw [if_neg c]
theorem bef_400 (q : Int) : bef (1970 + 400 * q) = 719162 + 146097 * q := by unfold bef; omega

theorem rof_l1 {n y m d : Int} (h : IsDay n y m d) (hy : y ≤ 1000000) (b c e g : Int) : ∀ (j k : Nat) (x i p : Int), 1 ≤ i → i + j = m → p = i - 1 → x = n - bef y - cum y i → j + 2 < k →
    garretref21_Of.l1 k x p y i 0 b c e g = some (y, m, d, b, c, e, g, 0) := by
  intro j
  have h3 := h.2.2.1
  have h4 := h.2.2.2.1
  have h5 := h.2.2.2.2.1
  have h6 := h.2.2.2.2.2
  induction j with
  | zero =>
    intro k x i p hi him hp hx hk
    obtain ⟨k, rfl⟩ : ∃ q, k = q + 1 := ⟨k - 1, by omega⟩
    obtain rfl : i = m := by omega
    have := mdays_bounds y i
    simp only [garretref21_Of.l1]
    rw [if_pos (by omega), bnd (rdays_told (m := i) (by have := h.1; omega) (k := k) (by omega)), if_neg (by omega), w64 (by omega) (by omega), show x + 1 = d by omega]
  | succ j ih =>
    intro k x i p hi him hp hx hk
    obtain ⟨k, rfl⟩ : ∃ q, k = q + 1 := ⟨k - 1, by omega⟩
    have hs := cum_succ y i hi (by omega)
    have hm := cum_mono y (i + 1) m (by omega) (by omega) (by omega)
    have := mdays_bounds y i
    have := mdays_bounds y m
    have := cum_mono y 1 i (by omega) (by omega) (by omega)
    have := cum_mono y m 13 (by omega) (by omega) (by omega)
    have := cum_all y
    have := cum_one y
    have := lp_01 y
    simp only [garretref21_Of.l1]
    rw [if_pos (by omega), bnd (rdays_told (m := i) (by have := h.1; omega) (k := k) (by omega)), if_pos (by omega), bnd (rdays_told (m := i) (by have := h.1; omega) (k := k) (by omega))]
    rw [w64 (x := x - mdays y i) (by omega) (by omega), w64 (x := p + 1) (by omega) (by omega), w64 (x := i + 1) (by omega) (by omega)]
    exact ih k _ (i + 1) (p + 1) (by omega) (by omega) (by omega) (by omega) (by omega)
theorem rof_l0 {n y m d : Int} (h : IsDay n y m d) (hy : y ≤ 100000) (hn : n ≤ 36500000) (b c e g : Int) : ∀ (j k : Nat) (x i p : Int), 1 ≤ i → i + j = y → 0 ≤ p → p + j ≤ 399 → x = n - bef i → j + 20 < k →
    garretref21_Of.l0 k x p i 0 0 b c e g = some (y, m, d, b, c, e, g, 0) := by
  intro j
  induction j with
  | zero =>
    intro k x i p hi hiy hp hpj hx hk
    obtain ⟨k, rfl⟩ : ∃ q, k = q + 2 := ⟨k - 2, by omega⟩
    obtain rfl : i = y := by omega
    have hb := h.year
    have hs := bef_succ i
    simp only [garretref21_Of.l0]
    rw [if_pos (by omega), bnd (ryear_told (y := i) (by omega)), if_neg (by omega)]
    simp only [garretref21_Of.j1]
    exact rof_l1 h (by omega) b c e g (m - 1).toNat k _ 1 0 (by omega) (by have := h.2.1; omega) (by omega) (by rw [cum_one]; omega) (by have := h.2.2.1; omega)
  | succ j ih =>
    intro k x i p hi hiy hp hpj hx hk
    obtain ⟨k, rfl⟩ : ∃ q, k = q + 1 := ⟨k - 1, by omega⟩
    have hb := h.year
    have hs := bef_succ i
    have hm := bef_mono (show i + 1 ≤ y by omega)
    have h0 := bef_mono hi
    have := bef_one
    have := lp_01 i
    simp only [garretref21_Of.l0]
    rw [if_pos (by omega), bnd (ryear_told (y := i) (by omega)), if_pos (by omega), bnd (ryear_told (y := i) (by omega))]
    rw [w64 (x := x - (365 + lp i)) (by omega) (by omega), w64 (x := p + 1) (by omega) (by omega), w64 (x := i + 1) (by omega) (by omega)]
    exact ih k _ (i + 1) (p + 1) (by omega) (by omega) (by omega) (by omega) (by omega) (by omega)
theorem rof_told {t y m d : Int} (h0 : 0 ≤ t) (h1 : t ≤ 1099511627776) (h : IsDay (dayOf t) y m d) {k : Nat} (hk : 1000 ≤ k) :
    garretref21_Of.f k t = some (y, m, d, t % 86400 / 3600, t % 86400 / 60 % 60, t % 60, (t / 86400 + 3) % 7 + 1, 0) := by
  have hy := h.year_le
  have hyr := h.year
  have h1y := h.1
  unfold dayOf at *
  unfold garretref21_Of.f
  rw [bnd (ris_yes h0 h1)]
  rw [if_pos rfl]
  rw [tdiv_pos h0, tmod_pos (b := 86400) h0, tmod_pos (b := 60) h0]
  rw [w64 (x := t / 86400) (by omega) (by omega), w64 (x := t / 86400 + 3) (by omega) (by omega)]
  rw [tdiv_pos (a := t / 86400) (by omega), tmod_pos (a := t / 86400) (by omega), tdiv_pos (a := t % 86400) (b := 3600) (by omega), tdiv_pos (a := t % 86400) (b := 60) (by omega), tmod_pos (a := t / 86400 + 3) (by omega)]
  rw [w64 (x := t / 86400 / 146097) (by omega) (by omega), w64 (x := 400 * (t / 86400 / 146097)) (by omega) (by omega), w64 (x := 1970 + 400 * (t / 86400 / 146097)) (by omega) (by omega), w64 (x := t % 86400 / 3600) (by omega) (by omega), w64 (x := t % 86400 / 60) (by omega) (by omega), w64 (x := (t / 86400 + 3) % 7 + 1) (by omega) (by omega)]
  rw [tmod_pos (a := t % 86400 / 60) (by omega)]
  have hq := bef_400 (t / 86400 / 146097)
  have hc := bef_cycle (1970 + 400 * (t / 86400 / 146097))
  have hle : 1970 + 400 * (t / 86400 / 146097) ≤ y := by
    by_cases z : 1970 + 400 * (t / 86400 / 146097) ≤ y
    · exact z
    · have := bef_mono (show y + 1 ≤ 1970 + 400 * (t / 86400 / 146097) by omega); omega
  have hlt : y < 1970 + 400 * (t / 86400 / 146097) + 400 := by
    by_cases z : y < 1970 + 400 * (t / 86400 / 146097) + 400
    · exact z
    · have := bef_mono (show 1970 + 400 * (t / 86400 / 146097) + 400 ≤ y by omega); omega
  exact rof_l0 h (by omega) (by omega) _ _ _ _ (y - (1970 + 400 * (t / 86400 / 146097))).toNat k _ _ 0 (by omega) (by omega) (by omega) (by omega) (by omega) (by omega)
theorem rof_no {t : Int} (h : ¬ (0 ≤ t ∧ t ≤ 1099511627776)) (k : Nat) : garretref21_Of.f k t = some (0, 0, 0, 0, 0, 0, 0, 1) := by
  unfold garretref21_Of.f
  rw [bnd (ris_no h)]
  rfl

theorem runix_l1 {y m d n h mi s : Int} (hd : IsDay n y m d) (h0 : 1970 ≤ y) (h1 : y ≤ 40000) (a0 : 0 ≤ h) (a1 : h < 24) (b0 : 0 ≤ mi) (b1 : mi < 60) (c0 : 0 ≤ s) (c1 : s < 60) (wd : Int) : ∀ (j k : Nat) (x i : Int), 1 ≤ i → i + j = m → x = bef y - 719162 + cum y i → j + 2 < k →
    garretref21_Unix.l1 k x i y m d h mi s wd = some (if (n - 719162) * 86400 + h * 3600 + mi * 60 + s ≤ 1099511627776 then ((n - 719162) * 86400 + h * 3600 + mi * 60 + s, 0) else (0, 210)) := by
  have hy := hd.year
  have hlo := bef_mono h0
  rw [bef_1970] at hlo
  have hhi := bef_mono (show y + 1 ≤ 40001 by omega)
  have h4 : bef 40001 = 14609700 := by decide
  have hm := hd.2.2.1
  have h5 := hd.2.2.2.2.1
  have h5' := hd.2.2.2.1
  have h6 := hd.2.2.2.2.2
  have := mdays_bounds y m
  intro j
  induction j with
  | zero =>
    intro k x i hi hij hx hk
    obtain ⟨k, rfl⟩ : ∃ q, k = q + 1 := ⟨k - 1, by omega⟩
    obtain rfl : i = m := by omega
    simp only [garretref21_Unix.l1]
    rw [if_neg (by omega), w64 (x := x + d) (by omega) (by omega), w64 (x := x + d - 1) (by omega) (by omega), show x + d - 1 = n - 719162 by omega]
    rw [w64 (x := (n - 719162) * 86400) (by omega) (by omega), w64 (x := h * 3600) (by omega) (by omega), w64 (x := mi * 60) (by omega) (by omega), w64 (x := (n - 719162) * 86400 + h * 3600) (by omega) (by omega), w64 (x := (n - 719162) * 86400 + h * 3600 + mi * 60) (by omega) (by omega), w64 (x := (n - 719162) * 86400 + h * 3600 + mi * 60 + s) (by omega) (by omega)]
    by_cases c : (n - 719162) * 86400 + h * 3600 + mi * 60 + s ≤ 1099511627776
    · rw [if_pos c, bnd (ris_yes (by omega) c)]; rfl
    · rw [if_neg c, bnd (ris_no (by omega))]; rfl
  | succ j ih =>
    intro k x i hi hij hx hk
    obtain ⟨k, rfl⟩ : ∃ q, k = q + 1 := ⟨k - 1, by omega⟩
    have hs := cum_succ y i hi (by omega)
    have := mdays_bounds y i
    have := cum_mono y 1 i (by omega) (by omega) (by omega)
    have := cum_mono y i 13 (by omega) (by omega) (by omega)
    have := cum_one y
    have := cum_all y
    have := lp_01 y
    simp only [garretref21_Unix.l1]
    rw [if_pos (by omega), bnd (rdays_told (m := i) (by omega) (k := k) (by omega)), w64 (x := i + 1) (by omega) (by omega), w64 (x := x + mdays y i) (by omega) (by omega)]
    exact ih k _ (i + 1) (by omega) (by omega) (by omega) (by omega)
theorem runix_l0 {y m d n h mi s : Int} (hd : IsDay n y m d) (h0 : 1970 ≤ y) (h1 : y ≤ 40000) (a0 : 0 ≤ h) (a1 : h < 24) (b0 : 0 ≤ mi) (b1 : mi < 60) (c0 : 0 ≤ s) (c1 : s < 60) (wd : Int) : ∀ (j k : Nat) (x i : Int), 1970 ≤ i → i + j = y → x = bef i - 719162 → j + 20 < k →
    garretref21_Unix.l0 k x i y m d h mi s wd = some (if (n - 719162) * 86400 + h * 3600 + mi * 60 + s ≤ 1099511627776 then ((n - 719162) * 86400 + h * 3600 + mi * 60 + s, 0) else (0, 210)) := by
  have hhi := bef_mono (show y + 1 ≤ 40001 by omega)
  have h4 : bef 40001 = 14609700 := by decide
  intro j
  induction j with
  | zero =>
    intro k x i hi hij hx hk
    obtain ⟨k, rfl⟩ : ∃ q, k = q + 1 := ⟨k - 1, by omega⟩
    obtain rfl : i = y := by omega
    simp only [garretref21_Unix.l0]
    rw [if_neg (by omega)]
    exact runix_l1 hd h0 h1 a0 a1 b0 b1 c0 c1 wd (m - 1).toNat k x 1 (by omega) (by have := hd.2.1; omega) (by rw [cum_one]; omega) (by have := hd.2.2.1; omega)
  | succ j ih =>
    intro k x i hi hij hx hk
    obtain ⟨k, rfl⟩ : ∃ q, k = q + 1 := ⟨k - 1, by omega⟩
    have hs := bef_succ i
    have := lp_01 i
    have hlo := bef_mono hi
    rw [bef_1970] at hlo
    have := bef_mono (show i + 1 ≤ y + 1 by omega)
    simp only [garretref21_Unix.l0]
    rw [if_pos (by omega), bnd (ryear_told (y := i) (by omega)), w64 (x := i + 1) (by omega) (by omega), w64 (x := x + (365 + lp i)) (by omega) (by omega)]
    exact ih k _ (i + 1) (by omega) (by omega) (by omega) (by omega)
theorem runix_told {y m d n h mi s wd : Int} (h0 : 1970 ≤ y) (h1 : y ≤ 40000) (hd : IsDay n y m d) (a0 : 0 ≤ h) (a1 : h < 24) (b0 : 0 ≤ mi) (b1 : mi < 60) (c0 : 0 ≤ s) (c1 : s < 60) {k : Nat} (hk : 1000 ≤ k) :
    garretref21_Unix.f k y m d h mi s wd = some (if (n - 719162) * 86400 + h * 3600 + mi * 60 + s ≤ 1099511627776 then ((n - 719162) * 86400 + h * 3600 + mi * 60 + s, 0) else (0, 210)) := by
  obtain ⟨k, rfl⟩ : ∃ q, k = q + 1 := ⟨k - 1, by omega⟩
  have h2 := hd.2.1
  have h3 := hd.2.2.1
  have h4 := hd.2.2.2.1
  have h5 := hd.2.2.2.2.1
  unfold garretref21_Unix.f
  rw [if_neg (by omega), if_neg (by omega), if_neg (by omega), if_neg (by omega), if_neg (by omega), bnd (rdays_told (m := m) (by omega) (k := k + 1) (by omega)), if_neg (by omega), if_neg (by omega), if_neg (by omega), if_neg (by omega), if_neg (by omega), if_neg (by omega), decide_eq_false (by omega)]
  simp only [garretref21_Unix.j0]
  rw [if_neg (by decide), w64 (x := y - 1970) (by omega) (by omega), tdiv_pos (a := y - 1970) (by omega), tmod_pos (a := y - 1970) (by omega), w64 (x := (y - 1970) / 400) (by omega) (by omega), w64 (x := (y - 1970) / 400 * 146097) (by omega) (by omega), w64 (x := y - (y - 1970) % 400) (by omega) (by omega)]
  have e : y - (y - 1970) % 400 = 1970 + 400 * ((y - 1970) / 400) := by omega
  rw [e]
  exact runix_l0 hd h0 h1 a0 a1 b0 b1 c0 c1 wd ((y - 1970) % 400).toNat k _ _ (by omega) (by omega) (by rw [bef_400]; omega) (by omega)
theorem runix_no {y m d h mi s : Int} (wd : Int) (r : ¬ Right y m d h mi s) {k : Nat} (hk : 0 < k) : garretref21_Unix.f k y m d h mi s wd = some (0, 210) := by
  obtain ⟨k, rfl⟩ : ∃ q, k = q + 1 := ⟨k - 1, by omega⟩
  have hj : garretref21_Unix.j0 (k + 1) true y m d h mi s wd = some (0, 210) := by
    simp only [garretref21_Unix.j0]; rfl
  unfold garretref21_Unix.f
  rw [hj]
  by_cases c1 : y < 1970
  · rw [if_pos c1]
  rw [if_neg c1]
  by_cases c2 : y > 40000
  · rw [if_pos c2]
  rw [if_neg c2]
  by_cases c3 : m < 1
  · rw [if_pos c3]
  rw [if_neg c3]
  by_cases c4 : m > 12
  · rw [if_pos c4]
  rw [if_neg c4]
  by_cases c5 : d < 1
  · rw [if_pos c5]
  rw [if_neg c5, bnd (rdays_told (m := m) (by omega) (k := k + 1) (by omega))]
  by_cases c6 : d > mdays y m
  · rw [if_pos c6]
  rw [if_neg c6]
  by_cases c7 : h < 0
  · rw [if_pos c7]
  rw [if_neg c7]
  by_cases c8 : h > 23
  · rw [if_pos c8]
  rw [if_neg c8]
  by_cases c9 : mi < 0
  · rw [if_pos c9]
  rw [if_neg c9]
  by_cases c10 : mi > 59
  · rw [if_pos c10]
  rw [if_neg c10]
  by_cases c11 : s < 0
  · rw [if_pos c11]
  rw [if_neg c11]
  by_cases c12 : s > 59
  · rw [decide_eq_true c12, hj]
  exact absurd (show Right y m d h mi s from ⟨by omega, by omega, by omega, by omega, by omega, by omega, by omega, by omega, by omega, by omega, by omega, by omega⟩) r
/-- A date that may be is some day's. -/
theorem Right.day {y m d h mi s : Int} (r : Right y m d h mi s) : IsDay (bef y + cum y m + d - 1) y m d := ⟨by have := r.1; omega, r.2.2.1, r.2.2.2.1, r.2.2.2.2.1, r.2.2.2.2.2.1, rfl⟩
end Go.Proofs.YtcmpjjbhhehanaaGreatDoor.Civ
