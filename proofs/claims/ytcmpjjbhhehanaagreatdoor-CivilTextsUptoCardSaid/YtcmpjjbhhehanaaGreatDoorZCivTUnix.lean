/- The time of a date. -/
import Derived.Test.YtcmpjjbhhehanaaGreatDoorQCivTx10
import Derived.Test.YtcmpjjbhhehanaaGreatDoorZCivTTold
namespace Go.Proofs.YtcmpjjbhhehanaaGreatDoor.Civ
open Go.RowKit Go.Proofs.YtcmpjjbhhehanaaGreatDoor.QCivT Go.Proofs.YtcmpjjbhhehanaaGreatDoorW.PrintWords Go.Proofs.YtcmpjjbhhehanaaGreatDoorW.PrintLast Go.Proofs.YtcmpjjbhhehanaaGreatDoorW.PrintMore
set_option linter.unusedVariables false

/-- A date that may be. -/
def Right (y m d h mi s : Int) : Prop := 1970 ≤ y ∧ y ≤ 40000 ∧ 1 ≤ m ∧ m ≤ 12 ∧ 1 ≤ d ∧ d ≤ mdays y m ∧ 0 ≤ h ∧ h < 24 ∧ 0 ≤ mi ∧ mi < 60 ∧ 0 ≤ s ∧ s < 60
theorem days_bad {y m : Int} (h : ¬ (1 ≤ m ∧ m ≤ 12)) : civil_Days.f y m = some (0, 210) := by
  unfold civil_Days.f
  by_cases c : m < 1
  · rw [if_pos c]
  · rw [if_neg c, if_pos (by omega)]
theorem leap_any (y : Int) : ∃ b, civil_Leap.f y = some b := by
  unfold civil_Leap.f
  repeat' split
  all_goals exact ⟨_, rfl⟩
theorem days_any (y m : Int) (h1 : 1 ≤ m) (h2 : m ≤ 12) : ∃ x, civil_Days.f y m = some (x, 0) := by
  unfold civil_Days.f
  rw [if_neg (by omega), if_neg (by omega)]
  by_cases c : m = 2
  · rw [if_pos c]
    obtain ⟨b, hb⟩ := leap_any y
    rw [bnd hb]
    cases b
    · exact ⟨_, rfl⟩
    · exact ⟨_, rfl⟩
  · rw [if_neg c]
    exact ⟨_, rfl⟩
theorem mn3 (a b c : Int) : mn (mn a b) c ≥ 0 ↔ 0 ≤ a ∧ 0 ≤ b ∧ 0 ≤ c := by unfold mn; split <;> split <;> omega
theorem mx2 (a b : Int) : mx a b < 60 ↔ a < 60 ∧ b < 60 := by unfold mx; split <;> omega
theorem right_yes {y m d h mi s : Int} (wd : Int) (r : Right y m d h mi s) : civil_right.f y m d h mi s wd = some true := by
  obtain ⟨r1, r2, r3, r4, r5, r6, r7, r8, r9, r10, r11, r12⟩ := r
  unfold civil_right.f
  rw [bnd (days_told (by omega) r3 r4)]
  rw [if_pos ((mn3 h mi s).2 ⟨r7, r9, r11⟩), if_pos r8, if_pos rfl, if_pos r1, if_pos r2, if_pos r5, if_pos r6, decide_eq_true ((mx2 mi s).2 ⟨r10, r12⟩)]
theorem right_no {y m d h mi s : Int} (wd : Int) (r : ¬ Right y m d h mi s) : civil_right.f y m d h mi s wd = some false := by
  unfold civil_right.f
  by_cases cm : 1 ≤ m ∧ m ≤ 12
  · by_cases cy : 1970 ≤ y
    · rw [bnd (days_told (by omega) cm.1 cm.2)]
      dsimp only
      repeat' split
      all_goals first
        | rfl
        | (congr 1
           apply decide_eq_false
           intro z8
           have z1 := (mn3 h mi s).1 (by assumption)
           have z8 := (mx2 mi s).1 z8
           exact r ⟨cy, by assumption, cm.1, cm.2, by assumption, by assumption, z1.1, by assumption, z1.2.1, z8.1, z1.2.2, z8.2⟩)
        | (exfalso; omega)
    · obtain ⟨x, hx⟩ := days_any y m cm.1 cm.2
      rw [bnd hx]
      dsimp only
      repeat' split
      all_goals first
        | rfl
        | (exfalso; omega)
  · rw [bnd (days_bad cm)]
    dsimp only
    repeat' split
    all_goals first
      | rfl
      | (rename_i z; exact absurd z (by decide))
      | (exfalso; omega)

theorem unix_l0 {y m d n h mi s : Int} (hd : IsDay n y m d) (h0 : 1970 ≤ y) (h1 : y ≤ 40000) (a0 : 0 ≤ h) (a1 : h < 24) (b0 : 0 ≤ mi) (b1 : mi < 60) (c0 : 0 ≤ s) (c1 : s < 60) (wd : Int) : ∀ (j k : Nat) (x i : Int), 1 ≤ i → i + j = m → x = bef y - 719162 + cum y i + d - 1 → j + 300000 < k →
    civil_Unix.l0 k x i y m d h mi s wd = some (if (n - 719162) * 86400 + h * 3600 + mi * 60 + s ≤ 1099511627776 then ((n - 719162) * 86400 + h * 3600 + mi * 60 + s, 0) else (0, 210)) := by
  have hy := hd.year
  have hlo := bef_mono h0
  rw [bef_1970] at hlo
  have hhi := bef_mono (show y + 1 ≤ 40001 by omega)
  have h4 : bef 40001 = 14609700 := by decide
  intro j
  induction j with
  | zero =>
    intro k x i hi hij hx hk
    obtain ⟨k, rfl⟩ : ∃ q, k = q + 1 := ⟨k - 1, by omega⟩
    obtain rfl : i = m := by omega
    have h6 := hd.2.2.2.2.2
    obtain rfl : x = n - 719162 := by omega
    simp only [civil_Unix.l0]
    rw [if_neg (by omega), w64 (x := (n - 719162) * 86400) (by omega) (by omega), w64 (x := h * 3600) (by omega) (by omega), w64 (x := mi * 60) (by omega) (by omega), w64 (x := (n - 719162) * 86400 + h * 3600) (by omega) (by omega), w64 (x := (n - 719162) * 86400 + h * 3600 + mi * 60) (by omega) (by omega), w64 (x := (n - 719162) * 86400 + h * 3600 + mi * 60 + s) (by omega) (by omega)]
    by_cases c : (n - 719162) * 86400 + h * 3600 + mi * 60 + s ≤ 1099511627776
    · rw [if_pos c]
      generalize ht : (n - 719162) * 86400 + h * 3600 + mi * 60 + s = t at *
      have e1 : dayOf t = n := by unfold dayOf; omega
      have e2 : t % 86400 / 3600 = h := by omega
      have e3 : t % 86400 / 60 % 60 = mi := by omega
      have e4 : t % 60 = s := by omega
      rw [bnd (of_told (t := t) (by omega) c (by rw [e1]; exact hd) (by omega))]
      rw [e2, e3, e4, if_pos rfl, if_neg (by simp)]
    · rw [if_neg c, bnd (of_no (by omega) k), if_neg (by decide)]
  | succ j ih =>
    intro k x i hi hij hx hk
    obtain ⟨k, rfl⟩ : ∃ q, k = q + 1 := ⟨k - 1, by omega⟩
    have hm := hd.2.2.1
    have h5 := hd.2.2.2.2.1
    have h5' := hd.2.2.2.1
    have := mdays_bounds y m
    have hs := cum_succ y i hi (by omega)
    have := mdays_bounds y i
    have := cum_mono y 1 i (by omega) (by omega) (by omega)
    have := cum_mono y i 13 (by omega) (by omega) (by omega)
    have := cum_one y
    have := cum_all y
    have := lp_01 y
    simp only [civil_Unix.l0]
    rw [if_pos (by omega), bnd (days_told (by omega) hi (by omega)), w64 (x := i + 1) (by omega) (by omega), w64 (by show _ ≤ x + mdays y i; omega) (by show x + mdays y i ≤ _; omega)]
    exact ih k _ (i + 1) (by omega) (by omega) (by show x + mdays y i = _; omega) (by omega)
/-- The time of a date that may be. -/
theorem unix_told {y m d n h mi s wd : Int} (h0 : 1970 ≤ y) (h1 : y ≤ 40000) (hd : IsDay n y m d) (a0 : 0 ≤ h) (a1 : h < 24) (b0 : 0 ≤ mi) (b1 : mi < 60) (c0 : 0 ≤ s) (c1 : s < 60) {k : Nat} (hk : 300100 ≤ k) :
    civil_Unix.f k y m d h mi s wd = some (if (n - 719162) * 86400 + h * 3600 + mi * 60 + s ≤ 1099511627776 then ((n - 719162) * 86400 + h * 3600 + mi * 60 + s, 0) else (0, 210)) := by
  have hlo := bef_mono h0
  rw [bef_1970] at hlo
  have hhi := bef_mono (show y + 1 ≤ 40001 by omega)
  have hs := bef_succ y
  have := lp_01 y
  have h4 : bef 40001 = 14609700 := by decide
  have hm := hd.2.2.1
  have h5 := hd.2.2.2.2.1
  have h5' := hd.2.2.2.1
  have := mdays_bounds y m
  unfold civil_Unix.f
  rw [bnd (right_yes wd ⟨h0, h1, hd.2.1, hd.2.2.1, hd.2.2.2.1, hd.2.2.2.2.1, a0, a1, b0, b1, c0, c1⟩), if_pos rfl, bnd (before_told (by omega) (by omega)), bnd (before_told (y := 1970) (by decide) (by decide)), bef_1970]
  rw [w64 (x := bef y - 719162) (by omega) (by omega), w64 (x := bef y - 719162 + d) (by omega) (by omega), w64 (x := bef y - 719162 + d - 1) (by omega) (by omega)]
  exact unix_l0 hd h0 h1 a0 a1 b0 b1 c0 c1 wd (m - 1).toNat k _ 1 (by omega) (by have := hd.2.1; omega) (by rw [cum_one]; omega) (by omega)
theorem unix_no {y m d h mi s : Int} (wd : Int) (r : ¬ Right y m d h mi s) (k : Nat) : civil_Unix.f k y m d h mi s wd = some (0, 210) := by
  unfold civil_Unix.f
  rw [bnd (right_no wd r)]
  rfl
end Go.Proofs.YtcmpjjbhhehanaaGreatDoor.Civ
