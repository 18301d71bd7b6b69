/- CivilReckons, the plain part: dates, weeks, keys and times are the document's. -/
import Derived.Test.YtcmajhdgaeploaaDoorQCivx8
import Derived.Test.YtcmajhdgaeploaaDoorYCivRef
namespace Go.Proofs.YtcmajhdgaeploaaDoor.Pure
open Go.RowKit Go.Proofs.YtcmajhdgaeploaaDoor.QCiv Go.Proofs.YtcmajhdgaeploaaDoorW.PrintWords Go.Proofs.YtcmajhdgaeploaaDoorW.PrintLast Go.Proofs.YtcmajhdgaeploaaDoor.Civ
set_option linter.unusedVariables false

theorem first_day' (y : Int) (h : 1 ≤ y) : IsDay (bef y) y 1 1 := ⟨h, by decide, by decide, by decide, by have := mdays_bounds y 1; omega, by rw [cum_one]; omega⟩
theorem of_same (t : Int) {k : Nat} (hk : 300100 ≤ k) : ∃ r, civil_Of.f k t = some r ∧ garretref21_Of.f k t = some r := by
  by_cases c : 0 ≤ t ∧ t ≤ 1099511627776
  · obtain ⟨y, m, d, h⟩ := date_there c.1
    exact ⟨_, of_told c.1 c.2 h (by omega), rof_told c.1 c.2 h (by omega)⟩
  · exact ⟨_, of_no c k, rof_no c k⟩
theorem key_same (u t : Int) {k : Nat} (hk : 300200 ≤ k) : ∃ r, civil_Key.f k u t = some r ∧ garretref21_Key.f k u t = some r := by
  obtain ⟨k, rfl⟩ : ∃ q, k = q + 1 := ⟨k - 1, by omega⟩
  by_cases c : 0 ≤ t ∧ t ≤ 1099511627776
  · obtain ⟨y, m, d, h⟩ := date_there c.1
    unfold civil_Key.f garretref21_Key.f
    rw [bnd (of_told c.1 c.2 h (k := k + 1) (by omega)), if_pos rfl]
    by_cases u0 : u < 1
    · rw [if_neg (by omega), if_neg (by omega), if_neg (by omega), if_neg (by omega), if_neg (by omega), if_pos u0]
      simp only [garretref21_Key.j0]
      exact ⟨_, rfl, rfl⟩
    · by_cases u5 : u > 5
      · rw [if_neg (by omega), if_neg (by omega), if_neg (by omega), if_neg (by omega), if_neg (by omega), if_neg u0, if_pos u5]
        simp only [garretref21_Key.j0]
        exact ⟨_, rfl, rfl⟩
      · rw [if_neg u0, if_neg u5, bnd (ris_yes c.1 c.2)]
        simp only [garretref21_Key.j0]
        rw [if_neg (show ¬ ((!true) = true) by decide), bnd (rof_told c.1 c.2 h (k := k) (by omega))]
        by_cases u1 : u = 1
        · rw [if_pos u1, if_pos u1]; exact ⟨_, rfl, rfl⟩
        rw [if_neg u1, if_neg u1]
        by_cases u2 : u = 2
        · rw [if_pos u2, if_pos u2]; exact ⟨_, rfl, rfl⟩
        rw [if_neg u2, if_neg u2]
        by_cases u3 : u = 3
        · rw [if_pos u3, if_pos u3]; exact ⟨_, rfl, rfl⟩
        rw [if_neg u3, if_neg u3]
        by_cases u4 : u = 4
        · rw [if_pos u4, if_pos u4]; exact ⟨_, rfl, rfl⟩
        rw [if_neg u4, if_neg u4, if_pos (by omega)]
        exact ⟨_, rfl, rfl⟩
  · unfold civil_Key.f garretref21_Key.f
    rw [bnd (of_no c (k + 1)), if_neg (by decide)]
    by_cases u0 : u < 1
    · rw [if_pos u0]
      simp only [garretref21_Key.j0]
      exact ⟨_, rfl, rfl⟩
    · rw [if_neg u0]
      by_cases u5 : u > 5
      · rw [if_pos u5]
        simp only [garretref21_Key.j0]
        exact ⟨_, rfl, rfl⟩
      · rw [if_neg u5, bnd (ris_no c)]
        simp only [garretref21_Key.j0]
        exact ⟨_, rfl, rfl⟩
/-- The week of a time: the year of its Thursday, and how many of that year's have been by then. -/
theorem week_same (t : Int) {k : Nat} (hk : 300200 ≤ k) : ∃ r, civil_WeekOf.f k t = some r ∧ garretref21_WeekOf.f k t = some r := by
  by_cases c : 0 ≤ t ∧ t ≤ 1099511627776
  · obtain ⟨y, m, d, h⟩ := date_there c.1
    have hyear := h.year
    have hyl := h.year_le
    have h1 := h.1
    obtain ⟨n, hn⟩ : ∃ n, n = t / 86400 := ⟨_, rfl⟩
    have hd : dayOf t = n + 719162 := by unfold dayOf; omega
    rw [hd] at hyear hyl
    have n0 : 0 ≤ n := by omega
    have n1 : n ≤ 12725829 := by omega
    have e1 : (n + 4 - ((n + 3) % 7 + 1)) = n - (n + 3) % 7 + 3 := by omega
    obtain ⟨th, hth⟩ : ∃ th, th = n - (n + 3) % 7 + 3 := ⟨_, rfl⟩
    have t0 : 0 ≤ th := by omega
    have t1 : th ≤ n + 3 ∧ n ≤ th + 3 := by omega
    have hy70 : 1970 ≤ y := by
      by_cases z : 1970 ≤ y
      · exact z
      · have := bef_mono (show y + 1 ≤ 1970 by omega); rw [bef_1970] at this; omega
    -- the Thursday's year
    obtain ⟨t', ht'⟩ : ∃ t', t' = mn (th * 86400) 1099511627776 := ⟨_, rfl⟩
    have b0 : 0 ≤ t' ∧ t' ≤ 1099511627776 := by rw [ht']; unfold mn; split <;> omega
    obtain ⟨Y, M, D, H⟩ := date_there b0.1
    have HY := H.year
    have HYL := H.year_le
    have HT : bef Y ≤ th + 719162 ∧ th + 719162 < bef (Y + 1) := by
      by_cases z : th * 86400 ≤ 1099511627776
      · have e : dayOf t' = th + 719162 := by rw [ht']; unfold dayOf mn; split <;> omega
        rw [e] at HY
        exact HY
      · have e : dayOf t' = 13444991 := by rw [ht']; unfold dayOf mn; split <;> omega
        rw [e] at HY
        have a1 : bef 36812 = 13444941 := by decide
        have a2 : bef (36812 + 1) = 13445307 := by decide
        have := year_one (a := Y) (b := 36812) HY.1 HY.2 (by omega) (by omega)
        subst this
        omega
    have HY70 : 1970 ≤ Y := by
      by_cases z : 1970 ≤ Y
      · exact z
      · have := bef_mono (show Y + 1 ≤ 1970 by omega); rw [bef_1970] at this; omega
    have HYm : Y ≤ 40000 := by
      by_cases z : Y ≤ 40000
      · exact z
      · have := bef_mono (show 40001 ≤ Y by omega)
        have a : bef 40001 = 14609700 := by decide
        omega
    have lo := bef_mono HY70
    rw [bef_1970] at lo
    have lo' := bef_mono hy70
    rw [bef_1970] at lo'
    refine ⟨(Y, (th - (bef Y - 719162)) / 7 + 1, 0), ?_, ?_⟩
    · unfold civil_WeekOf.f
      rw [bnd (of_told c.1 c.2 h (k := k) (by omega)), if_pos rfl, ← hn]
      have b70 : civil_before.f 1970 = some 719162 := by rw [before_told (by decide) (by decide), bef_1970]
      rw [bnd (before_told (y := y) h1 (by omega)), bnd b70]
      rw [tdiv_pos c.1, ← hn, w64 (x := n) (by omega) (by omega), w64 (x := n + 4) (by omega) (by omega), w64 (x := n + 4 - ((n + 3) % 7 + 1)) (by omega) (by omega), e1, ← hth, w64 (x := bef y - 719162) (by omega) (by omega)]
      by_cases z : th < bef y - 719162
      · have := bef_mono (show y - 1 ≤ y by omega)
        have e : Y = y - 1 := year_one (n := th + 719162) HT.1 HT.2 (by omega) (by rw [show y - 1 + 1 = y by omega]; omega)
        subst e
        rw [if_pos z, w64 (x := y - 1) (by omega) (by omega), bnd (before_told (y := y - 1) (by omega) (by omega)), bnd b70]
        rw [w64 (x := th - bef (y - 1)) (by omega) (by omega), w64 (x := th - bef (y - 1) + 719162) (by omega) (by omega), tdiv_pos (a := th - bef (y - 1) + 719162) (by omega), w64 (x := (th - bef (y - 1) + 719162) / 7) (by omega) (by omega), w64 (by omega) (by omega)]
        rw [show th - bef (y - 1) + 719162 = th - (bef (y - 1) - 719162) by omega]
      · rw [if_neg z, w64 (x := y + 1) (by omega) (by omega), bnd (before_told (y := y + 1) (by omega) (by omega)), bnd b70]
        have m1 := bef_mono (show y + 1 ≤ y + 2 by omega)
        have m2 := bef_succ y
        have m3 := lp_01 y
        rw [w64 (x := bef (y + 1) - 719162) (by omega) (by omega)]
        by_cases z2 : th ≥ bef (y + 1) - 719162
        · have e : Y = y + 1 := year_one (n := th + 719162) HT.1 HT.2 (by omega) (by rw [show y + 1 + 1 = y + 2 by omega]; omega)
          subst e
          rw [if_pos z2, bnd (before_told (y := y + 1) (by omega) (by omega)), bnd b70]
          rw [w64 (x := th - bef (y + 1)) (by omega) (by omega), w64 (x := th - bef (y + 1) + 719162) (by omega) (by omega), tdiv_pos (a := th - bef (y + 1) + 719162) (by omega), w64 (x := (th - bef (y + 1) + 719162) / 7) (by omega) (by omega), w64 (by omega) (by omega)]
          rw [show th - bef (y + 1) + 719162 = th - (bef (y + 1) - 719162) by omega]
        · have e : Y = y := year_one (n := th + 719162) HT.1 HT.2 (by omega) (by omega)
          subst e
          rw [if_neg z2, bnd (before_told (y := Y) (by omega) (by omega)), bnd b70]
          rw [w64 (x := th - bef Y) (by omega) (by omega), w64 (x := th - bef Y + 719162) (by omega) (by omega), tdiv_pos (a := th - bef Y + 719162) (by omega), w64 (x := (th - bef Y + 719162) / 7) (by omega) (by omega), w64 (by omega) (by omega)]
          rw [show th - bef Y + 719162 = th - (bef Y - 719162) by omega]
    · unfold garretref21_WeekOf.f
      rw [bnd (ris_yes c.1 c.2), if_pos rfl]
      rw [tdiv_pos c.1, ← hn, w64 (x := n) (by omega) (by omega), w64 (x := n + 3) (by omega) (by omega), tmod_pos (a := n + 3) (by omega), w64 (x := n - (n + 3) % 7) (by omega) (by omega), w64 (x := n - (n + 3) % 7 + 3) (by omega) (by omega), ← hth, w64 (x := th * 86400) (by omega) (by omega), ← ht']
      rw [bnd (rof_told b0.1 b0.2 H (k := k) (by omega))]
      rw [bnd (runix_told (y := Y) (m := 1) (d := 1) (h := 0) (mi := 0) (s := 0) (wd := 0) HY70 HYm (first_day' Y (by omega)) (by decide) (by decide) (by decide) (by decide) (by decide) (by decide) (k := k) (by omega))]
      have hf : (bef Y - 719162) * 86400 + 0 * 3600 + 0 * 60 + 0 ≤ 1099511627776 := by
        have : bef Y ≤ dayOf t' := HY.1
        unfold dayOf at this
        omega
      rw [if_pos hf]
      rw [tdiv_pos (a := (bef Y - 719162) * 86400 + 0 * 3600 + 0 * 60 + 0) (by omega)]
      rw [show ((bef Y - 719162) * 86400 + 0 * 3600 + 0 * 60 + 0) / 86400 = bef Y - 719162 by omega]
      rw [w64 (x := bef Y - 719162) (by omega) (by omega), w64 (x := th - (bef Y - 719162)) (by omega) (by omega), tdiv_pos (a := th - (bef Y - 719162)) (by omega), w64 (x := (th - (bef Y - 719162)) / 7) (by omega) (by omega), w64 (by omega) (by omega)]
  · refine ⟨(0, 0, 1), ?_, ?_⟩
    · unfold civil_WeekOf.f
      rw [bnd (of_no c k)]
      rfl
    · unfold garretref21_WeekOf.f
      rw [bnd (ris_no c)]
      rfl
theorem same_told (a b c d e f g : Int) : garretlaw21_same.f a b c d e f g a b c d e f g = some true := by
  unfold garretlaw21_same.f
  rw [if_pos rfl, if_pos rfl, if_pos rfl, if_pos rfl, if_pos rfl, if_pos rfl]
  simp
theorem CivilReckons : garretlaw21_CivilReckons.Pure := by
  intro t y m d h mi s wd u _ _ _ _ _ _ _ _ _
  obtain ⟨k, hk⟩ : ∃ n, n = 400000 := ⟨_, rfl⟩
  refine ⟨k, ?_⟩
  obtain ⟨⟨o1, o2, o3, o4, o5, o6, o7, o8⟩, ho, ho'⟩ := of_same t (k := k) (by omega)
  obtain ⟨⟨x1, x2⟩, hx, hx'⟩ := unix_same y m d h mi s wd wd (k := k) (by omega)
  obtain ⟨⟨w1, w2, w3⟩, hw, hw'⟩ := week_same t (k := k) (by omega)
  obtain ⟨⟨k1, k2⟩, hK, hK'⟩ := key_same u t (k := k) (by omega)
  have hD := rDays_same y m (k := k) (by omega)
  obtain ⟨⟨d1, d2⟩, hd⟩ : ∃ r, civil_Days.f y m = some r := by
    by_cases c : 1 ≤ m ∧ m ≤ 12
    · obtain ⟨x, hx⟩ := days_any y m c.1 c.2; exact ⟨_, hx⟩
    · exact ⟨_, days_bad c⟩
  rw [hd] at hD
  obtain ⟨b, hb⟩ := leap_any y
  unfold garretlaw21_CivilReckons.f
  rw [bnd ho, bnd ho', bnd hx, bnd hx', bnd hw, bnd hw', bnd hK, bnd hK', bnd hd, bnd hD, bnd (same_told _ _ _ _ _ _ _)]
  rw [if_pos rfl, if_pos rfl, if_pos rfl, if_pos rfl, if_pos rfl, if_pos rfl, if_pos rfl, if_pos rfl, if_pos rfl, if_pos rfl, if_pos rfl]
  rw [bnd hb, rleap_same, bnd hb, if_pos (by simp), bnd (works_told (by omega))]
end Go.Proofs.YtcmajhdgaeploaaDoor.Pure
