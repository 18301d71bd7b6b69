/- CivilKeys, the plain part: keys never fall; what two times share of them; a week's key is that of its Monday, and one less ahead of it. -/
import Derived.Test.YtcmajhdgaeploaaDoorQCivx9
import Derived.Test.YtcmajhdgaeploaaDoorYCivTold
namespace Go.Proofs.YtcmajhdgaeploaaDoor.Pure
open Go.RowKit Go.Proofs.YtcmajhdgaeploaaDoor.QCiv Go.Proofs.YtcmajhdgaeploaaDoorW.PrintWords Go.Proofs.YtcmajhdgaeploaaDoorW.PrintLast Go.Proofs.YtcmajhdgaeploaaDoor.Civ
set_option linter.unusedVariables false
set_option linter.unusedSimpArgs false

/-- The key of a time, by its date. -/
def keyOf (u t y m : Int) : Int := if u = 1 then t / 3600 else if u = 2 then t / 86400 else if u = 3 then (t / 86400 + 3) / 7 else if u = 4 then 12 * y + m else y
theorem key_told {u t y m d : Int} (h0 : 0 ≤ t) (h1 : t ≤ 1099511627776) (h : IsDay (dayOf t) y m d) (u1 : 1 ≤ u) (u5 : u ≤ 5) {k : Nat} (hk : 300000 ≤ k) : civil_Key.f k u t = some (keyOf u t y m, 0) := by
  have hy := h.year_le
  have hy1 := h.1
  have hm := h.2.1
  have hm2 := h.2.2.1
  unfold dayOf at hy
  unfold civil_Key.f keyOf
  rw [bnd (of_told h0 h1 h hk), if_pos rfl]
  rw [tdiv_pos h0, tdiv_pos h0]
  rw [w64 (x := t / 3600) (by omega) (by omega), w64 (x := t / 86400) (by omega) (by omega), w64 (x := t / 86400 + 3) (by omega) (by omega), tdiv_pos (a := t / 86400 + 3) (by omega), w64 (x := (t / 86400 + 3) / 7) (by omega) (by omega)]
  rw [w64 (x := 12 * y) (by omega) (by omega), w64 (x := 12 * y + m) (by omega) (by omega)]
  by_cases a : u = 1
  · rw [if_pos a, if_pos a]
  rw [if_neg a, if_neg a]
  by_cases b : u = 2
  · rw [if_pos b, if_pos b]
  rw [if_neg b, if_neg b]
  by_cases c : u = 3
  · rw [if_pos c, if_pos c]
  rw [if_neg c, if_neg c]
  by_cases e : u = 4
  · rw [if_pos e, if_pos e]
  rw [if_neg e, if_neg e, if_pos (by omega)]
theorem pair_told {u t v y m d y' m' d' : Int} (h0 : 0 ≤ t) (hle : t ≤ v) (h1 : v ≤ 1099511627776) (h : IsDay (dayOf t) y m d) (h' : IsDay (dayOf v) y' m' d') (u1 : 1 ≤ u) (u5 : u ≤ 5) {k : Nat} (hk : 300000 ≤ k) :
    garretlaw21_CivilKeys.pair k u t v = some (keyOf u t y m == keyOf u v y' m') := by
  have hn : dayOf t ≤ dayOf v := by unfold dayOf; omega
  obtain ⟨l1, l2⟩ := h.le h' hn
  have l3 := h.le12 h' hn
  unfold garretlaw21_CivilKeys.pair
  rw [bnd (key_told h0 (by omega) h u1 u5 hk), bnd (key_told (by omega) h1 h' u1 u5 hk), if_pos]
  refine ⟨rfl, rfl, ?_⟩
  show ¬ keyOf u v y' m' < keyOf u t y m
  unfold keyOf
  repeat' split
  all_goals omega
/-- The year and number of a time's week, by its Thursday. -/
theorem weekof_told {t y m d : Int} (h0 : 0 ≤ t) (h1 : t ≤ 1099511627776) (h : IsDay (dayOf t) y m d) {k : Nat} (hk : 300000 ≤ k) :
    ∃ Y, bef Y ≤ t / 86400 - (t / 86400 + 3) % 7 + 3 + 719162 ∧ t / 86400 - (t / 86400 + 3) % 7 + 3 + 719162 < bef (Y + 1) ∧ civil_WeekOf.f k t = some (Y, (t / 86400 - (t / 86400 + 3) % 7 + 3 - (bef Y - 719162)) / 7 + 1, 0) := by
  have hyear := h.year
  have hyl := h.year_le
  have h1' := h.1
  obtain ⟨n, hn⟩ : ∃ n, n = t / 86400 := ⟨_, rfl⟩
  have hd : dayOf t = n + 719162 := by unfold dayOf; omega
  rw [hd] at hyear hyl
  rw [← hn]
  have n0 : 0 ≤ n := by omega
  have n1 : n ≤ 12725829 := by omega
  have e1 : (n + 4 - ((n + 3) % 7 + 1)) = n - (n + 3) % 7 + 3 := by omega
  obtain ⟨th, hth⟩ : ∃ th, th = n - (n + 3) % 7 + 3 := ⟨_, rfl⟩
  rw [← hth]
  have t0 : 0 ≤ th := by omega
  have t1 : th ≤ n + 3 ∧ n ≤ th + 3 := by omega
  have hy70 : 1970 ≤ y := by
    by_cases z : 1970 ≤ y
    · exact z
    · have := bef_mono (show y + 1 ≤ 1970 by omega); rw [bef_1970] at this; omega
  have lo := bef_mono hy70
  rw [bef_1970] at lo
  have m2 := bef_succ y
  have m3 := lp_01 y
  have b70 : civil_before.f 1970 = some 719162 := by rw [before_told (by decide) (by decide), bef_1970]
  unfold civil_WeekOf.f
  rw [bnd (of_told h0 h1 h (k := k) (by omega)), if_pos rfl, ← hn]
  rw [bnd (before_told (y := y) h1' (by omega)), bnd b70]
  rw [tdiv_pos h0, ← hn, w64 (x := n) (by omega) (by omega), w64 (x := n + 4) (by omega) (by omega), w64 (x := n + 4 - ((n + 3) % 7 + 1)) (by omega) (by omega), e1, ← hth, w64 (x := bef y - 719162) (by omega) (by omega)]
  by_cases z : th < bef y - 719162
  · have mm := bef_mono (show y - 1 ≤ y by omega)
    refine ⟨y - 1, by omega, by rw [show y - 1 + 1 = y by omega]; omega, ?_⟩
    have hy71 : 1970 ≤ y - 1 := by
      by_cases z1 : 1970 ≤ y - 1
      · exact z1
      · have : y = 1970 := by omega
        subst this; rw [bef_1970] at z; omega
    have lo1 := bef_mono hy71
    rw [bef_1970] at lo1
    rw [if_pos z, w64 (x := y - 1) (by omega) (by omega), bnd (before_told (y := y - 1) (by omega) (by omega)), bnd b70]
    rw [w64 (x := th - bef (y - 1)) (by omega) (by omega), w64 (x := th - bef (y - 1) + 719162) (by omega) (by omega), tdiv_pos (a := th - bef (y - 1) + 719162) (by omega), w64 (x := (th - bef (y - 1) + 719162) / 7) (by omega) (by omega), w64 (by omega) (by omega)]
    rw [show th - bef (y - 1) + 719162 = th - (bef (y - 1) - 719162) by omega]
  · rw [if_neg z, w64 (x := y + 1) (by omega) (by omega), bnd (before_told (y := y + 1) (by omega) (by omega)), bnd b70]
    have m1 := bef_mono (show y + 1 ≤ y + 2 by omega)
    rw [w64 (x := bef (y + 1) - 719162) (by omega) (by omega)]
    by_cases z2 : th ≥ bef (y + 1) - 719162
    · refine ⟨y + 1, by omega, by rw [show y + 1 + 1 = y + 2 by omega]; omega, ?_⟩
      rw [if_pos z2, bnd (before_told (y := y + 1) (by omega) (by omega)), bnd b70]
      rw [w64 (x := th - bef (y + 1)) (by omega) (by omega), w64 (x := th - bef (y + 1) + 719162) (by omega) (by omega), tdiv_pos (a := th - bef (y + 1) + 719162) (by omega), w64 (x := (th - bef (y + 1) + 719162) / 7) (by omega) (by omega), w64 (by omega) (by omega)]
      rw [show th - bef (y + 1) + 719162 = th - (bef (y + 1) - 719162) by omega]
    · refine ⟨y, by omega, by omega, ?_⟩
      rw [if_neg z2, bnd (before_told (y := y) (by omega) (by omega)), bnd b70]
      rw [w64 (x := th - bef y) (by omega) (by omega), w64 (x := th - bef y + 719162) (by omega) (by omega), tdiv_pos (a := th - bef y + 719162) (by omega), w64 (x := (th - bef y + 719162) / 7) (by omega) (by omega), w64 (by omega) (by omega)]
      rw [show th - bef y + 719162 = th - (bef y - 719162) by omega]
/-- The Monday of a time's week. -/
theorem monday_eq {t : Int} (h0 : 0 ≤ t) (h1 : t ≤ 1099511627776) : garretlaw21_CivilKeys.mon t ((t / 86400 + 3) % 7 + 1) = t - t % 86400 - (t / 86400 + 3) % 7 * 86400 := by
  unfold garretlaw21_CivilKeys.mon
  rw [tmod_pos h0, w64 (x := t - t % 86400) (by omega) (by omega), w64 (x := (t / 86400 + 3) % 7 + 1 - 1) (by omega) (by omega), w64 (x := ((t / 86400 + 3) % 7 + 1 - 1) * 86400) (by omega) (by omega), w64 (by omega) (by omega)]
  omega
theorem monday_told {t y m d : Int} (h0 : 0 ≤ t) (h1 : t ≤ 1099511627776) (h : IsDay (dayOf t) y m d) (hm : 1 ≤ t - t % 86400 - (t / 86400 + 3) % 7 * 86400) {k : Nat} (hk : 300000 ≤ k) :
    garretlaw21_CivilKeys.monday k t (t - t % 86400 - (t / 86400 + 3) % 7 * 86400) = some true := by
  obtain ⟨M, hM⟩ : ∃ M, M = t - t % 86400 - (t / 86400 + 3) % 7 * 86400 := ⟨_, rfl⟩
  rw [← hM] at hm ⊢
  have M0 : 0 ≤ M := by omega
  have M1 : M ≤ t := by omega
  obtain ⟨n, hn⟩ : ∃ n, n = t / 86400 := ⟨_, rfl⟩
  have eM : M / 86400 = n - (n + 3) % 7 := by omega
  have eM' : (M - 1) / 86400 = n - (n + 3) % 7 - 1 := by omega
  obtain ⟨y1, m1, d1, H1⟩ := date_there (t := M) M0
  obtain ⟨y2, m2, d2, H2⟩ := date_there (t := M - 1) (by omega)
  obtain ⟨Y, a1, a2, hW⟩ := weekof_told h0 h1 h hk
  obtain ⟨Z, b1, b2, hV⟩ := weekof_told (t := M) M0 (by omega) H1 hk
  have k1 := key_told (u := 3) h0 h1 h (by decide) (by decide) hk
  have k2 := key_told (u := 3) (t := M) M0 (by omega) H1 (by decide) (by decide) hk
  have k3 := key_told (u := 3) (t := M - 1) (by omega) (by omega) H2 (by decide) (by decide) hk
  have e1 : ∀ x y m, keyOf 3 x y m = (x / 86400 + 3) / 7 := fun x y m => by unfold keyOf; rw [if_neg (by decide), if_neg (by decide), if_pos rfl]
  rw [e1] at k1 k2 k3
  rw [eM] at k2 b1 b2 hV
  rw [eM'] at k3
  rw [← hn] at k1 a1 a2 hW
  have n0 : 0 ≤ n := by omega
  have th : n - (n + 3) % 7 - (n - (n + 3) % 7 + 3) % 7 + 3 = n - (n + 3) % 7 + 3 := by omega
  rw [th] at b1 b2 hV
  have := year_one a1 a2 b1 b2
  subst this
  have YY : bef Y + 365 + lp Y = bef (Y + 1) := (bef_succ Y).symm
  have := lp_01 Y
  unfold garretlaw21_CivilKeys.monday
  rw [bnd k1, bnd k2, w64 (x := M - 1) (by omega) (by omega), bnd k3, bnd hW, bnd hV, if_pos]
  have hk1 : 0 ≤ (n + 3) / 7 := by omega
  refine ⟨by show (n + 3) / 7 = (n - (n + 3) % 7 + 3) / 7; omega, ?_, rfl, rfl, rfl, rfl, ?_, ?_⟩
  · show (n - (n + 3) % 7 - 1 + 3) / 7 = wrap64 ((n + 3) / 7 - 1)
    rw [w64 (by omega) (by omega)]
    omega
  · show (n - (n + 3) % 7 + 3 - (bef Y - 719162)) / 7 + 1 ≥ 1
    omega
  · show (n - (n + 3) % 7 + 3 - (bef Y - 719162)) / 7 + 1 ≤ 53
    omega
theorem CivilKeys : garretlaw21_CivilKeys.Pure := by
  intro a0 a1 hwf hwf1
  obtain ⟨t, ht, t0, t1⟩ := among_told a0 1099510627776 (wf_i64 hwf).1 (wf_i64 hwf).2 (by decide) (by decide)
  obtain ⟨q, hq, q0, q1⟩ := among_told a1 1000000 (wf_i64 hwf1).1 (wf_i64 hwf1).2 (by decide) (by decide)
  obtain ⟨k, hk⟩ : ∃ n, n = 400000 := ⟨_, rfl⟩
  obtain ⟨y, m, d, h⟩ := date_there t0
  obtain ⟨y', m', d', h'⟩ := date_there (t := t + q) (by omega)
  have hn : dayOf t ≤ dayOf (t + q) := by unfold dayOf; omega
  obtain ⟨l1, l2⟩ := h.le h' hn
  have hm1 := h.2.1
  have hm2 := h.2.2.1
  have hm1' := h'.2.1
  have hm2' := h'.2.2.1
  refine ⟨k, ?_⟩
  unfold garretlaw21_CivilKeys.f
  rw [bnd (works_told (by omega)), if_pos rfl, bnd ht, bnd hq, w64 (x := t + q) (by omega) (by omega)]
  rw [bnd (pair_told (u := 1) t0 (by omega) (by omega) h h' (by decide) (by decide) (by omega)), bnd (pair_told (u := 2) t0 (by omega) (by omega) h h' (by decide) (by decide) (by omega)), bnd (pair_told (u := 3) t0 (by omega) (by omega) h h' (by decide) (by decide) (by omega)), bnd (pair_told (u := 4) t0 (by omega) (by omega) h h' (by decide) (by decide) (by omega)), bnd (pair_told (u := 5) t0 (by omega) (by omega) h h' (by decide) (by decide) (by omega))]
  have f1 : ∀ x a b, keyOf 1 x a b = x / 3600 := fun x a b => by unfold keyOf; rw [if_pos rfl]
  have f2 : ∀ x a b, keyOf 2 x a b = x / 86400 := fun x a b => by unfold keyOf; rw [if_neg (by decide), if_pos rfl]
  have f3 : ∀ x a b, keyOf 3 x a b = (x / 86400 + 3) / 7 := fun x a b => by unfold keyOf; rw [if_neg (by decide), if_neg (by decide), if_pos rfl]
  have f4 : ∀ x a b, keyOf 4 x a b = 12 * a + b := fun x a b => by unfold keyOf; rw [if_neg (by decide), if_neg (by decide), if_neg (by decide), if_pos rfl]
  have f5 : ∀ x a b, keyOf 5 x a b = a := fun x a b => by unfold keyOf; rw [if_neg (by decide), if_neg (by decide), if_neg (by decide), if_neg (by decide)]
  rw [f1, f1, f2, f2, f3, f3, f4, f4, f5, f5]
  have g12 : t / 3600 = (t + q) / 3600 → t / 86400 = (t + q) / 86400 := by intro e; omega
  have g23 : t / 86400 = (t + q) / 86400 → (t / 86400 + 3) / 7 = ((t + q) / 86400 + 3) / 7 := by intro e; rw [e]
  have g24 : t / 86400 = (t + q) / 86400 → 12 * y + m = 12 * y' + m' := by
    intro e
    have e2 : dayOf t = dayOf (t + q) := by unfold dayOf; omega
    rw [← e2] at h'
    obtain ⟨r1, r2, r3⟩ := h.one h'
    omega
  have g45 : 12 * y + m = 12 * y' + m' → y = y' := by intro e; omega
  rw [if_pos]
  · rw [bnd (of_told t0 (by omega) h (k := k) (by omega)), if_pos rfl]
    rw [monday_eq t0 (by omega)]
    by_cases c : t - t % 86400 - (t / 86400 + 3) % 7 * 86400 < 1
    · rw [if_pos c]
    · rw [if_neg c]
      exact monday_told t0 (by omega) h (by omega) (by omega)
  · by_cases c1 : t / 3600 = (t + q) / 3600
    · have c2 := g12 c1; have c3 := g23 c2; have c4 := g24 c2; have c5 := g45 c4
      simp [c1, c2, c3, c4, c5] <;> omega
    · by_cases c2 : t / 86400 = (t + q) / 86400
      · have c3 := g23 c2; have c4 := g24 c2; have c5 := g45 c4
        simp [c1, c2, c3, c4, c5] <;> omega
      · by_cases c4 : 12 * y + m = 12 * y' + m'
        · have c5 := g45 c4
          simp [c1, c2, c4, c5] <;> omega
        · simp [c1, c2, c4]
end Go.Proofs.YtcmajhdgaeploaaDoor.Pure
