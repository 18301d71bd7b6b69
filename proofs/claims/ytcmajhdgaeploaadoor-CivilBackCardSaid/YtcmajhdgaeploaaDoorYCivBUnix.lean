/- The time of a date. -/
import Derived.Test.YtcmajhdgaeploaaDoorQCivBx4
import Derived.Test.YtcmajhdgaeploaaDoorYCivBTold
namespace Go.Proofs.YtcmajhdgaeploaaDoor.Civ
open Go.RowKit Go.Proofs.YtcmajhdgaeploaaDoor.QCivB Go.Proofs.YtcmajhdgaeploaaDoorW.PrintWords Go.Proofs.YtcmajhdgaeploaaDoorW.PrintLast Go.Proofs.YtcmajhdgaeploaaDoorW.PrintMore
set_option linter.unusedVariables false

/-- A date that may be. -/
def Right (y m d h mi s : Int) : Prop := 1970 ≤ y ∧ y ≤ 40000 ∧ 1 ≤ m ∧ m ≤ 12 ∧ 1 ≤ d ∧ d ≤ mdays y m ∧ 0 ≤ h ∧ h < 24 ∧ 0 ≤ mi ∧ mi < 60 ∧ 0 ≤ s ∧ s < 60
theorem mn3 (a b c : Int) : mn (mn a b) c ≥ 0 ↔ 0 ≤ a ∧ 0 ≤ b ∧ 0 ≤ c := by unfold mn; split <;> split <;> omega
theorem mx2 (a b : Int) : mx a b < 60 ↔ a < 60 ∧ b < 60 := by unfold mx; split <;> omega
theorem right_yes {y m d h mi s : Int} (wd : Int) (r : Right y m d h mi s) : civil_right.f y m d h mi s wd = some true := by
  obtain ⟨r1, r2, r3, r4, r5, r6, r7, r8, r9, r10, r11, r12⟩ := r
  unfold civil_right.f
  rw [bnd (days_told (by omega) r3 r4)]
  rw [if_pos ((mn3 h mi s).2 ⟨r7, r9, r11⟩), if_pos r8, if_pos rfl, if_pos r1, if_pos r2, if_pos r5, if_pos r6, decide_eq_true ((mx2 mi s).2 ⟨r10, r12⟩)]
theorem unix_l0 {y m d n h mi s : Int} (hd : IsDay n y m d) (h0 : 1970 ≤ y) (h1 : y ≤ 40000) (a0 : 0 ≤ h) (a1 : h < 24) (b0 : 0 ≤ mi) (b1 : mi < 60) (c0 : 0 ≤ s) (c1 : s < 60) (wd : Int) : ∀ (j k : Nat) (x i : Int), 1 ≤ i → i + j = m → x = bef y - 719162 + cum y i + d - 1 → j + 300000 < k →
    civil_Unix.l0 k x i y m d h mi s wd = some (if (n - 719162) * 86400 + h * 3600 + mi * 60 + s ≤ 1099511627776 then ((n - 719162) * 86400 + h * 3600 + mi * 60 + s, 0) else (0, 210)) := by
  have hy := hd.year
  have hlo := bef_mono h0
  rw [bef_1970] at hlo
  have hhi := bef_mono (show y + 1 ≤ 40001 by omega)
  have h4 : bef 40001 = 14609700 := by decide
  intro j
  induction j with
  | zero =>
    intro k x i hi hij hx hk
    obtain ⟨k, rfl⟩ : ∃ q, k = q + 1 := ⟨k - 1, by omega⟩
    obtain rfl : i = m := by omega
    have h6 := hd.2.2.2.2.2
    obtain rfl : x = n - 719162 := by omega
    simp only [civil_Unix.l0]
    rw [if_neg (by omega), w64 (x := (n - 719162) * 86400) (by omega) (by omega), w64 (x := h * 3600) (by omega) (by omega), w64 (x := mi * 60) (by omega) (by omega), w64 (x := (n - 719162) * 86400 + h * 3600) (by omega) (by omega), w64 (x := (n - 719162) * 86400 + h * 3600 + mi * 60) (by omega) (by omega), w64 (x := (n - 719162) * 86400 + h * 3600 + mi * 60 + s) (by omega) (by omega)]
    by_cases c : (n - 719162) * 86400 + h * 3600 + mi * 60 + s ≤ 1099511627776
    · rw [if_pos c]
      generalize ht : (n - 719162) * 86400 + h * 3600 + mi * 60 + s = t at *
      have e1 : dayOf t = n := by unfold dayOf; omega
      have e2 : t % 86400 / 3600 = h := by omega
      have e3 : t % 86400 / 60 % 60 = mi := by omega
      have e4 : t % 60 = s := by omega
      rw [bnd (of_told (t := t) (by omega) c (by rw [e1]; exact hd) (by omega))]
      rw [e2, e3, e4, if_pos rfl, if_neg (by simp)]
    · rw [if_neg c, bnd (of_no (by omega) k), if_neg (by decide)]
  | succ j ih =>
    intro k x i hi hij hx hk
    obtain ⟨k, rfl⟩ : ∃ q, k = q + 1 := ⟨k - 1, by omega⟩
    have hm := hd.2.2.1
    have h5 := hd.2.2.2.2.1
    have h5' := hd.2.2.2.1
    have := mdays_bounds y m
    have hs := cum_succ y i hi (by omega)
    have := mdays_bounds y i
    have := cum_mono y 1 i (by omega) (by omega) (by omega)
    have := cum_mono y i 13 (by omega) (by omega) (by omega)
    have := cum_one y
    have := cum_all y
    have := lp_01 y
    simp only [civil_Unix.l0]
    rw [if_pos (by omega), bnd (days_told (by omega) hi (by omega)), w64 (x := i + 1) (by omega) (by omega), w64 (by show _ ≤ x + mdays y i; omega) (by show x + mdays y i ≤ _; omega)]
    exact ih k _ (i + 1) (by omega) (by omega) (by show x + mdays y i = _; omega) (by omega)
/-- The time of a date that may be. -/
theorem unix_told {y m d n h mi s wd : Int} (h0 : 1970 ≤ y) (h1 : y ≤ 40000) (hd : IsDay n y m d) (a0 : 0 ≤ h) (a1 : h < 24) (b0 : 0 ≤ mi) (b1 : mi < 60) (c0 : 0 ≤ s) (c1 : s < 60) {k : Nat} (hk : 300100 ≤ k) :
    civil_Unix.f k y m d h mi s wd = some (if (n - 719162) * 86400 + h * 3600 + mi * 60 + s ≤ 1099511627776 then ((n - 719162) * 86400 + h * 3600 + mi * 60 + s, 0) else (0, 210)) := by
  have hlo := bef_mono h0
  rw [bef_1970] at hlo
  have hhi := bef_mono (show y + 1 ≤ 40001 by omega)
  have hs := bef_succ y
  have := lp_01 y
  have h4 : bef 40001 = 14609700 := by decide
  have hm := hd.2.2.1
  have h5 := hd.2.2.2.2.1
  have h5' := hd.2.2.2.1
  have := mdays_bounds y m
  unfold civil_Unix.f
  rw [bnd (right_yes wd ⟨h0, h1, hd.2.1, hd.2.2.1, hd.2.2.2.1, hd.2.2.2.2.1, a0, a1, b0, b1, c0, c1⟩), if_pos rfl, bnd (before_told (by omega) (by omega)), bnd (before_told (y := 1970) (by decide) (by decide)), bef_1970]
  rw [w64 (x := bef y - 719162) (by omega) (by omega), w64 (x := bef y - 719162 + d) (by omega) (by omega), w64 (x := bef y - 719162 + d - 1) (by omega) (by omega)]
  exact unix_l0 hd h0 h1 a0 a1 b0 b1 c0 c1 wd (m - 1).toNat k _ 1 (by omega) (by have := hd.2.1; omega) (by rw [cum_one]; omega) (by omega)
end Go.Proofs.YtcmajhdgaeploaaDoor.Civ
