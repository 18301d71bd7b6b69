/- What the printed functions of the dates tell: a year's first day, leap years, the days of a month, the date of a time, its digits, the example. -/
import Derived.Test.YtcmpjjbhhehanaaGreatDoorQCivTx10
import Derived.Test.YtcmpjjbhhehanaaGreatDoorYCivMath
namespace Go.Proofs.YtcmpjjbhhehanaaGreatDoor.Civ
open Go.RowKit Go.Proofs.YtcmpjjbhhehanaaGreatDoor.QCivT Go.Proofs.YtcmpjjbhhehanaaGreatDoorW.PrintWords Go.Proofs.YtcmpjjbhhehanaaGreatDoorW.PrintLast Go.Proofs.YtcmpjjbhhehanaaGreatDoorW.PrintMore
set_option linter.unusedVariables false

theorem bnd {α β : Type} {a : Option α} {x : α} {f : α → Option β} (h : a = some x) : a.bind f = f x := by rw [h]; rfl
theorem w64 {x : Int} (h1 : -9223372036854775808 ≤ x) (h2 : x ≤ 9223372036854775807) : wrap64 x = x := by unfold wrap64; omega
theorem tdiv_pos {a b : Int} (h : 0 ≤ a) : Int.tdiv a b = a / b := Int.tdiv_eq_ediv_of_nonneg h
theorem tmod_pos {a b : Int} (h : 0 ≤ a) : Int.tmod a b = a % b := Int.tmod_eq_emod_of_nonneg h
theorem before_told {y : Int} (h1 : 1 ≤ y) (h2 : y ≤ 1000000) : civil_before.f y = some (bef y) := by
  unfold civil_before.f
  rw [w64 (x := y - 1) (by omega) (by omega), tdiv_pos (a := y - 1) (b := 4) (by omega), tdiv_pos (a := y - 1) (b := 100) (by omega), tdiv_pos (a := y - 1) (b := 400) (by omega)]
  rw [w64 (x := (y - 1) * 365) (by omega) (by omega), w64 (x := (y - 1) / 4) (by omega) (by omega), w64 (x := (y - 1) / 100) (by omega) (by omega), w64 (x := (y - 1) / 400) (by omega) (by omega)]
  rw [w64 (x := (y - 1) * 365 + (y - 1) / 4) (by omega) (by omega), w64 (x := (y - 1) * 365 + (y - 1) / 4 - (y - 1) / 100) (by omega) (by omega), w64 (by omega) (by omega)]
  rfl
theorem leap_told {y : Int} (h : 0 ≤ y) : civil_Leap.f y = some (lp y == 1) := by
  unfold civil_Leap.f lp
  rw [tmod_pos h, tmod_pos h, tmod_pos h]
  by_cases a : y % 4 = 0
  · rw [if_pos a]
    by_cases b : y % 100 = 0
    · rw [if_pos b]
      by_cases c : y % 400 = 0
      · rw [if_pos ⟨a, Or.inr c⟩, c]; rfl
      · rw [if_neg (by rintro ⟨_, d | d⟩ <;> contradiction)]
        have : (y % 400 == 0) = false := by simpa using c
        rw [this]; rfl
    · rw [if_neg b, if_pos ⟨a, Or.inl b⟩]; rfl
  · rw [if_neg a, if_neg (fun d => a d.1)]; rfl
theorem days_told {y m : Int} (h : 0 ≤ y) (h1 : 1 ≤ m) (h2 : m ≤ 12) : civil_Days.f y m = some (mdays y m, 0) := by
  unfold civil_Days.f mdays
  rw [if_neg (by omega), if_neg (by omega)]
  by_cases c : m = 2
  · rw [if_pos c, if_pos c, bnd (leap_told h)]
    rcases lp_01 y with e | e
    · rw [e]; rfl
    · rw [e]; rfl
  · rw [if_neg c, if_neg c]
    have hm : m = 1 ∨ m = 3 ∨ m = 4 ∨ m = 5 ∨ m = 6 ∨ m = 7 ∨ m = 8 ∨ m = 9 ∨ m = 10 ∨ m = 11 ∨ m = 12 := by omega
    rcases hm with rfl | rfl | rfl | rfl | rfl | rfl | rfl | rfl | rfl | rfl | rfl <;> rfl

/-- Every day has its date. -/
theorem day_there (n : Nat) : ∃ y m d, IsDay n y m d := by
  induction n with
  | zero => exact ⟨1, 1, 1, by unfold IsDay; decide⟩
  | succ n ih => obtain ⟨y, m, d, h⟩ := ih; exact ⟨_, _, _, by rw [show ((n + 1 : Nat) : Int) = n + 1 by omega]; exact h.next⟩
theorem IsDay.year_le {n y m d : Int} (h : IsDay n y m d) : 365 * (y - 1) ≤ n := by
  have := h.year.1
  have := bef_mono h.1
  have := bef_one
  omega

theorem of_l2 {n y m d : Int} (h : IsDay n y m d) (hy : y ≤ 1000000) (b c e g : Int) : ∀ (j k : Nat) (x i : Int), 1 ≤ i → i + j = m → x = n - bef y - cum y i → j < k →
    civil_Of.l2 k x y i 0 b c e g = some (y, m, d, b, c, e, g, 0) := by
  intro j
  induction j with
  | zero =>
    intro k x i hi him hx hk
    obtain ⟨k, rfl⟩ : ∃ q, k = q + 1 := ⟨k - 1, by omega⟩
    obtain rfl : i = m := by omega
    simp only [civil_Of.l2]
    rw [bnd (days_told (by have := h.1; omega) h.2.1 h.2.2.1)]
    have h4 := h.2.2.2.1
    have h5 := h.2.2.2.2.1
    have h6 := h.2.2.2.2.2
    have := mdays_bounds y i
    show (if x < mdays y i then some (y, i, wrap64 (x + 1), b, c, e, g, 0) else _) = _
    rw [if_pos (by omega), w64 (by omega) (by omega), show x + 1 = d by omega]
  | succ j ih =>
    intro k x i hi him hx hk
    obtain ⟨k, rfl⟩ : ∃ q, k = q + 1 := ⟨k - 1, by omega⟩
    have h3 := h.2.2.1
    have h4 := h.2.2.2.1
    have h5 := h.2.2.2.2.1
    have h6 := h.2.2.2.2.2
    have hs := cum_succ y i hi (by omega)
    have hm := cum_mono y (i + 1) m (by omega) (by omega) (by omega)
    have := mdays_bounds y i
    have := mdays_bounds y m
    have := cum_mono y 1 i (by omega) (by omega) (by omega)
    have := cum_mono y m 13 (by omega) (by omega) (by omega)
    have := cum_all y
    have := cum_one y
    have := lp_01 y
    simp only [civil_Of.l2]
    rw [bnd (days_told (by have := h.1; omega) hi (by omega))]
    show (if x < mdays y i then _ else civil_Of.l2 k (wrap64 (x - mdays y i)) y (wrap64 (i + 1)) 0 b c e g) = _
    rw [if_neg (by omega), w64 (by omega) (by omega), w64 (by omega) (by omega)]
    exact ih k _ (i + 1) (by omega) (by omega) (by omega) (by omega)
theorem of_l1 {n y m d : Int} (h : IsDay n y m d) (hy : y ≤ 100000) (hn : n ≤ 36500000) (b c e g : Int) : ∀ (j k : Nat) (i : Int), 1 ≤ i → i + j = y → j + 14 < k →
    civil_Of.l1 k n i 0 0 b c e g = some (y, m, d, b, c, e, g, 0) := by
  intro j
  induction j with
  | zero =>
    intro k i hi hiy hk
    obtain ⟨k, rfl⟩ : ∃ q, k = q + 1 := ⟨k - 1, by omega⟩
    obtain rfl : i = y := by omega
    have hb := h.year
    have := bef_mono hi
    have := bef_one
    simp only [civil_Of.l1]
    rw [w64 (x := i + 1) (by omega) (by omega), bnd (before_told (y := i + 1) (by omega) (by omega)), if_neg (by omega), bnd (before_told hi (by omega)), w64 (by omega) (by omega)]
    exact of_l2 h (by omega) b c e g (m - 1).toNat k _ 1 (by omega) (by have := h.2.1; omega) (by rw [cum_one]; omega) (by have := h.2.2.1; omega)
  | succ j ih =>
    intro k i hi hiy hk
    obtain ⟨k, rfl⟩ : ∃ q, k = q + 1 := ⟨k - 1, by omega⟩
    have hb := h.year
    have := bef_mono (show i + 1 ≤ y by omega)
    simp only [civil_Of.l1]
    rw [w64 (x := i + 1) (by omega) (by omega), bnd (before_told (y := i + 1) (by omega) (by omega)), if_pos (by omega)]
    exact ih k (i + 1) (by omega) (by omega) (by omega)
theorem of_l0 {n y m d : Int} (h : IsDay n y m d) (hy : y ≤ 100000) (hn : n ≤ 36500000) (b c e g : Int) : ∀ (j k : Nat) (i : Int), 1 ≤ i → i ≤ y + j → i ≤ 100000 → j + 100015 < k →
    civil_Of.l0 k n i 0 0 b c e g = some (y, m, d, b, c, e, g, 0) := by
  intro j
  induction j with
  | zero =>
    intro k i hi hiy hi2 hk
    obtain ⟨k, rfl⟩ : ∃ q, k = q + 1 := ⟨k - 1, by omega⟩
    have hb := h.year
    have := bef_mono (show i ≤ y by omega)
    simp only [civil_Of.l0]
    rw [bnd (before_told hi (by omega)), if_neg (by omega)]
    exact of_l1 h hy hn b c e g (y - i).toNat k i hi (by omega) (by omega)
  | succ j ih =>
    intro k i hi hiy hi2 hk
    obtain ⟨k, rfl⟩ : ∃ q, k = q + 1 := ⟨k - 1, by omega⟩
    have hb := h.year
    have h1 := h.1
    simp only [civil_Of.l0]
    rw [bnd (before_told hi (by omega))]
    by_cases q : bef i > n
    · have hne : ¬ i ≤ y := fun z => by have := bef_mono z; omega
      rw [if_pos q, w64 (by omega) (by omega)]
      exact ih k (i - 1) (by omega) (by omega) (by omega) (by omega)
    · have hle : i ≤ y := by
        by_cases z : i ≤ y
        · exact z
        · have := bef_mono (show y + 1 ≤ i by omega); omega
      rw [if_neg q]
      exact of_l1 h hy hn b c e g (y - i).toNat k i hi (by omega) (by omega)

/-- The day of a time, counted from the year 1. -/
def dayOf (t : Int) : Int := t / 86400 + 719162
theorem may_yes {t : Int} (h0 : 0 ≤ t) (h1 : t ≤ 1099511627776) : civil_may.f t = some true := by
  unfold civil_may.f
  rw [if_pos h0, decide_eq_true h1]
theorem may_no {t : Int} (h : ¬ (0 ≤ t ∧ t ≤ 1099511627776)) : civil_may.f t = some false := by
  unfold civil_may.f
  by_cases c : t ≥ 0
  · rw [if_pos c, decide_eq_false (by omega)]
  · rw [if_neg c]
/-- The date of a time. -/
theorem of_told {t y m d : Int} (h0 : 0 ≤ t) (h1 : t ≤ 1099511627776) (h : IsDay (dayOf t) y m d) {k : Nat} (hk : 300000 ≤ k) :
    civil_Of.f k t = some (y, m, d, t % 86400 / 3600, t % 86400 / 60 % 60, t % 60, (t / 86400 + 3) % 7 + 1, 0) := by
  have hy := h.year_le
  have h1y := h.1
  unfold dayOf at *
  unfold civil_Of.f
  rw [bnd (may_yes h0 h1)]
  rw [if_pos rfl, bnd (before_told (y := 1970) (by decide) (by decide)), bef_1970]
  rw [tdiv_pos h0, tmod_pos (b := 86400) h0, tmod_pos (b := 60) h0]
  rw [w64 (x := t / 86400) (by omega) (by omega), w64 (x := t / 86400 + 719162) (by omega) (by omega), w64 (x := t / 86400 + 3) (by omega) (by omega)]
  rw [w64 (x := (t / 86400 + 719162) * 400) (by omega) (by omega)]
  rw [tdiv_pos (a := (t / 86400 + 719162) * 400) (by omega), tdiv_pos (a := t % 86400) (b := 3600) (by omega), tdiv_pos (a := t % 86400) (b := 60) (by omega), tmod_pos (a := t / 86400 + 3) (by omega)]
  rw [w64 (x := (t / 86400 + 719162) * 400 / 146097) (by omega) (by omega), w64 (x := t % 86400 / 3600) (by omega) (by omega), w64 (x := t % 86400 / 60) (by omega) (by omega), w64 (x := (t / 86400 + 3) % 7 + 1) (by omega) (by omega)]
  rw [tmod_pos (a := t % 86400 / 60) (by omega), w64 (x := (t / 86400 + 719162) * 400 / 146097 + 1) (by omega) (by omega)]
  exact of_l0 h (by omega) (by omega) _ _ _ _ 100000 k _ (by omega) (by omega) (by omega) (by omega)
theorem of_no {t : Int} (h : ¬ (0 ≤ t ∧ t ≤ 1099511627776)) (k : Nat) : civil_Of.f k t = some (0, 0, 0, 0, 0, 0, 0, 1) := by
  unfold civil_Of.f
  rw [bnd (may_no h)]
  rfl
theorem date_there {t : Int} (h0 : 0 ≤ t) : ∃ y m d, IsDay (dayOf t) y m d := by
  obtain ⟨y, m, d, h⟩ := day_there (dayOf t).toNat
  exact ⟨y, m, d, by rw [show (((dayOf t).toNat : Nat) : Int) = dayOf t by unfold dayOf; omega] at h; exact h⟩

theorem repeat_rep (n : Nat) : Lib.repeatL [48] n = List.replicate n 48 := by
  induction n with
  | zero => rfl
  | succ n ih => simp only [Lib.repeatL, ih, List.replicate_succ, List.singleton_append]
/-- A number, with so many digits at least. -/
theorem digits_told {n least : Int} {l : List UInt8} (h : Lib.itoa n = l) (h0 : -9223372036854775808 ≤ n) (h1 : n ≤ 9223372036854775807) (hl : l.length ≤ 100) (l0 : 0 ≤ least) (l1 : least ≤ 100) :
    civil_digits.f n least = some ⟨(List.replicate (least.toNat - l.length) 48 ++ l).toArray⟩ := by
  unfold civil_digits.f strconv_Itoa.f
  rw [if_pos ⟨h0, h1⟩, h]
  rw [bnd rfl]
  have hs : ((⟨l.toArray⟩ : ByteArray).size : Int) = l.length := rfl
  rw [hs, w64 (by omega) (by omega), show mx 0 (least - (l.length : Int)) = ((least.toNat - l.length : Nat) : Int) by unfold mx; split <;> omega]
  unfold strings_Repeat.f
  rw [if_pos ⟨by omega, by omega, by rw [Int.toNat_natCast]; show 1 * _ ≤ _; omega⟩, Int.toNat_natCast]
  rw [bnd rfl]
  rw [if_pos (by show (Lib.repeatL [48] _).length + l.length ≤ _; rw [repeat_rep, List.length_replicate]; omega)]
  show some ((⟨(Lib.repeatL [48] _).toArray⟩ : ByteArray) ++ ⟨l.toArray⟩) = _
  rw [repeat_rep]
  congr 1
theorem itoa_nat (n : Nat) : Lib.itoa (n : Int) = Lib.decDigits n := by unfold Lib.itoa; rw [if_neg (by omega), Int.toNat_natCast]
theorem dec_one {n : Nat} (h : n < 10) : Lib.decDigits n = [UInt8.ofNat (48 + n)] := by rw [Lib.decDigits, dif_pos h]
theorem dec_more {n : Nat} (h : ¬ n < 10) : Lib.decDigits n = Lib.decDigits (n / 10) ++ [UInt8.ofNat (48 + n % 10)] := by rw [Lib.decDigits, dif_neg h]

theorem d2000 : civil_digits.f 2000 4 = some ⟨#[50, 48, 48, 48]⟩ :=
  digits_told (l := [50, 48, 48, 48]) (by rw [show (2000 : Int) = ((2000 : Nat) : Int) from rfl, itoa_nat, dec_more (by decide), dec_more (by decide), dec_more (by decide), dec_one (by decide)]; rfl) (by decide) (by decide) (by decide) (by decide) (by decide)
theorem d02 : civil_digits.f 2 2 = some ⟨#[48, 50]⟩ :=
  digits_told (l := [50]) (by rw [show (2 : Int) = ((2 : Nat) : Int) from rfl, itoa_nat, dec_one (by decide)]; rfl) (by decide) (by decide) (by decide) (by decide) (by decide)
theorem d29 : civil_digits.f 29 2 = some ⟨#[50, 57]⟩ :=
  digits_told (l := [50, 57]) (by rw [show (29 : Int) = ((29 : Nat) : Int) from rfl, itoa_nat, dec_more (by decide), dec_one (by decide)]; rfl) (by decide) (by decide) (by decide) (by decide) (by decide)
theorem d00 : civil_digits.f 0 2 = some ⟨#[48, 48]⟩ :=
  digits_told (l := [48]) (by rw [show (0 : Int) = ((0 : Nat) : Int) from rfl, itoa_nat, dec_one (by decide)]; rfl) (by decide) (by decide) (by decide) (by decide) (by decide)
theorem of_example {k : Nat} (hk : 300000 ≤ k) : civil_Of.f k 951782400 = some (2000, 2, 29, 0, 0, 0, 2, 0) :=
  of_told (t := 951782400) (y := 2000) (m := 2) (d := 29) (by decide) (by decide) (by unfold IsDay; decide) hk
theorem text_example {k : Nat} (hk : 300000 ≤ k) : civil_Text.f k 951782400 = some (⟨#[50, 48, 48, 48, 45, 48, 50, 45, 50, 57, 32, 48, 48, 58, 48, 48, 58, 48, 48]⟩, 0) := by
  unfold civil_Text.f
  rw [bnd (of_example hk)]
  rw [if_pos rfl]
  rw [bnd d2000]
  rw [if_pos (by decide +kernel)]
  rw [bnd d02]
  rw [if_pos (by decide +kernel), if_pos (by decide +kernel)]
  rw [bnd d29]
  rw [if_pos (by decide +kernel), if_pos (by decide +kernel)]
  rw [bnd d00]
  rw [if_pos (by decide +kernel), if_pos (by decide +kernel)]
  rw [bnd d00]
  rw [if_pos (by decide +kernel), if_pos (by decide +kernel)]
  rw [bnd d00]
  rw [if_pos (by decide +kernel)]
  kernel_rfl
theorem works_told {k : Nat} (hk : 300000 ≤ k) : garretlaw21_works.f k = some true := by
  unfold garretlaw21_works.f
  rw [bnd (text_example hk), bnd (of_example hk)]
  rw [if_pos rfl, if_pos rfl, if_pos (by decide +kernel)]
  rfl
end Go.Proofs.YtcmpjjbhhehanaaGreatDoor.Civ
