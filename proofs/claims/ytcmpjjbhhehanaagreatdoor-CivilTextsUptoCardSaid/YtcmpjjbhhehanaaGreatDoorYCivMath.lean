/- Days, years and months as plain numbers: how many days there are before a year and before a month of it; a day's year and month are one. No program in it. -/
import Derived.WalkKit
namespace Go.Proofs.YtcmpjjbhhehanaaGreatDoor.Civ
set_option linter.unusedVariables false

/-- 1 in a leap year, else 0. -/
def lp (y : Int) : Int := if y % 4 = 0 ∧ (y % 100 ≠ 0 ∨ y % 400 = 0) then 1 else 0
/-- The days from the beginning of the year 1 to that of another one. -/
def bef (y : Int) : Int := (y - 1) * 365 + (y - 1) / 4 - (y - 1) / 100 + (y - 1) / 400
theorem lp_01 (y : Int) : lp y = 0 ∨ lp y = 1 := by unfold lp; split <;> simp
theorem bef_succ (y : Int) : bef (y + 1) = bef y + 365 + lp y := by
  unfold bef lp
  split <;> omega
theorem bef_cycle (y : Int) : bef (y + 400) = bef y + 146097 := by
  unfold bef; omega
theorem bef_one : bef 1 = 0 := by decide
theorem bef_1970 : bef 1970 = 719162 := by decide
theorem bef_add (y : Int) (n : Nat) : bef y + 365 * n ≤ bef (y + n) := by
  induction n with
  | zero => simp
  | succ n ih =>
    have h := bef_succ (y + n)
    have := lp_01 (y + n)
    rw [show y + ((n + 1 : Nat) : Int) = y + n + 1 by omega]
    omega
theorem bef_mono {a b : Int} (h : a ≤ b) : bef a + 365 * (b - a) ≤ bef b := by
  have := bef_add a (b - a).toNat
  rw [show a + (((b - a).toNat : Nat) : Int) = b by omega] at this
  omega
theorem year_one {a b n : Int} (h1 : bef a ≤ n) (h2 : n < bef (a + 1)) (h3 : bef b ≤ n) (h4 : n < bef (b + 1)) : a = b := by
  by_cases c : a < b
  · have := bef_mono (show a + 1 ≤ b by omega); omega
  · by_cases d : b < a
    · have := bef_mono (show b + 1 ≤ a by omega); omega
    · omega

/-- The days of a month. -/
def mdays (y m : Int) : Int := if m = 2 then 28 + lp y else if m = 4 ∨ m = 6 ∨ m = 9 ∨ m = 11 then 30 else 31
/-- The days ahead of a month in its year. -/
def cum (y m : Int) : Int :=
  if m ≤ 1 then 0 else if m = 2 then 31 else lp y + (if m = 3 then 59 else if m = 4 then 90 else if m = 5 then 120 else if m = 6 then 151 else if m = 7 then 181 else if m = 8 then 212 else if m = 9 then 243 else if m = 10 then 273 else if m = 11 then 304 else if m = 12 then 334 else 365)
theorem mdays_bounds (y m : Int) : 28 ≤ mdays y m ∧ mdays y m ≤ 31 := by
  have := lp_01 y
  unfold mdays
  repeat' split
  all_goals omega
theorem cum_succ (y m : Int) (h1 : 1 ≤ m) (h2 : m ≤ 12) : cum y (m + 1) = cum y m + mdays y m := by
  have hm : m = 1 ∨ m = 2 ∨ m = 3 ∨ m = 4 ∨ m = 5 ∨ m = 6 ∨ m = 7 ∨ m = 8 ∨ m = 9 ∨ m = 10 ∨ m = 11 ∨ m = 12 := by omega
  rcases hm with rfl | rfl | rfl | rfl | rfl | rfl | rfl | rfl | rfl | rfl | rfl | rfl <;> simp [cum, mdays] <;> omega
theorem cum_one (y : Int) : cum y 1 = 0 := by simp [cum]
theorem cum_all (y : Int) : cum y 13 = 365 + lp y := by simp [cum]; omega
theorem cum_mono (y a b : Int) (h1 : 1 ≤ a) (h2 : a ≤ b) (h3 : b ≤ 13) : cum y a + 28 * (b - a) ≤ cum y b := by
  obtain ⟨n, rfl⟩ : ∃ n : Nat, b = a + n := ⟨(b - a).toNat, by omega⟩
  induction n with
  | zero => simp
  | succ n ih =>
    have h := cum_succ y (a + n) (by omega) (by omega)
    have := mdays_bounds y (a + n)
    have := ih (by omega) (by omega)
    rw [show a + ((n + 1 : Nat) : Int) = a + n + 1 by omega]
    omega
theorem month_one (y a b n : Int) (a1 : 1 ≤ a) (a2 : a ≤ 12) (b1 : 1 ≤ b) (b2 : b ≤ 12) (h1 : cum y a ≤ n) (h2 : n < cum y (a + 1)) (h3 : cum y b ≤ n) (h4 : n < cum y (b + 1)) : a = b := by
  by_cases c : a < b
  · have := cum_mono y (a + 1) b (by omega) (by omega) (by omega); omega
  · by_cases d : b < a
    · have := cum_mono y (b + 1) a (by omega) (by omega) (by omega); omega
    · omega

/-- A day's year, month and day of the month, as what they are. -/
def IsDay (n y m d : Int) : Prop := 1 ≤ y ∧ 1 ≤ m ∧ m ≤ 12 ∧ 1 ≤ d ∧ d ≤ mdays y m ∧ bef y + cum y m + d - 1 = n
theorem IsDay.year {n y m d : Int} (h : IsDay n y m d) : bef y ≤ n ∧ n < bef (y + 1) := by
  obtain ⟨h1, h2, h3, h4, h5, h6⟩ := h
  have := cum_succ y m h2 h3
  have := cum_mono y 1 m (by omega) h2 (by omega)
  have := cum_mono y (m + 1) 13 (by omega) (by omega) (by omega)
  have := cum_all y
  have := cum_one y
  have := bef_succ y
  omega
theorem IsDay.month {n y m d : Int} (h : IsDay n y m d) : cum y m ≤ n - bef y ∧ n - bef y < cum y (m + 1) := by
  obtain ⟨h1, h2, h3, h4, h5, h6⟩ := h
  have := cum_succ y m h2 h3
  omega
theorem IsDay.one {n y m d y' m' d' : Int} (h : IsDay n y m d) (h' : IsDay n y' m' d') : y = y' ∧ m = m' ∧ d = d' := by
  have e := year_one h.year.1 h.year.2 h'.year.1 h'.year.2
  subst e
  have e := month_one y m m' (n - bef y) h.2.1 h.2.2.1 h'.2.1 h'.2.2.1 h.month.1 h.month.2 h'.month.1 h'.month.2
  subst e
  have h6 := h.2.2.2.2.2
  have h6' := h'.2.2.2.2.2
  exact ⟨rfl, rfl, by omega⟩
/-- Dates rise with days. -/
theorem IsDay.le {n y m d n' y' m' d' : Int} (h : IsDay n y m d) (h' : IsDay n' y' m' d') (hn : n ≤ n') : y ≤ y' ∧ (y = y' → m ≤ m') := by
  have a := h.year
  have b := h'.year
  constructor
  · by_cases c : y' < y
    · have := bef_mono (show y' + 1 ≤ y by omega); omega
    · omega
  · rintro rfl
    have a := h.month
    have b := h'.month
    by_cases c : m' < m
    · have := cum_mono y (m' + 1) m (by have := h'.2.1; omega) (by omega) (by have := h.2.2.1; omega); omega
    · omega
/-- The next day. -/
theorem IsDay.next {n y m d : Int} (h : IsDay n y m d) : IsDay (n + 1) (if d < mdays y m then y else if m < 12 then y else y + 1) (if d < mdays y m then m else if m < 12 then m + 1 else 1) (if d < mdays y m then d + 1 else 1) := by
  obtain ⟨h1, h2, h3, h4, h5, h6⟩ := h
  have hs := cum_succ y m h2 h3
  by_cases c : d < mdays y m
  · rw [if_pos c, if_pos c, if_pos c]; exact ⟨h1, h2, h3, by omega, by omega, by omega⟩
  · rw [if_neg c, if_neg c, if_neg c]
    by_cases e : m < 12
    · rw [if_pos e, if_pos e]; exact ⟨h1, by omega, by omega, by omega, by have := mdays_bounds y (m + 1); omega, by omega⟩
    · rw [if_neg e, if_neg e]
      obtain rfl : m = 12 := by omega
      have := cum_all y
      have := cum_one (y + 1)
      have := bef_succ y
      refine ⟨by omega, by omega, by omega, by omega, by have := mdays_bounds (y + 1) 1; omega, ?_⟩
      have hs' : cum y 13 = cum y 12 + mdays y 12 := hs
      omega
end Go.Proofs.YtcmpjjbhhehanaaGreatDoor.Civ
