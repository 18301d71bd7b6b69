/- PathTogether, the plain part: what is within a directory stands together. -/
import Derived.Test.YtcmajhdgaeploaaDoorYPathIso
import Derived.Test.YtcmajhdgaeploaaDoorZPthTPathTB
import Derived.Test.YtcmajhdgaeploaaDoorZPthTPathTD
import Derived.Test.YtcmajhdgaeploaaDoorQPthTx3
namespace Go.Proofs.YtcmajhdgaeploaaDoor.Pure
open Go.RowKit Go.Proofs.YtcmajhdgaeploaaDoor.QPthT Go.Proofs.YtcmajhdgaeploaaDoorW.PrintWords Go.Proofs.YtcmajhdgaeploaaDoorW.PrintLast
open Go Go.Proofs.YtcmajhdgaeploaaDoor.PathOrd
set_option maxRecDepth 100000
set_option linter.unusedSimpArgs false
theorem works_told : garretlaw17_works.f 10 = some true := by decide +kernel
theorem works_more (k : Nat) (h : 10 ≤ k) : garretlaw17_works.f k = some true := by
  obtain ⟨j, rfl⟩ := Nat.exists_eq_add_of_le h
  induction j with
  | zero => exact works_told
  | succ j ih => exact garretlaw17_works.mono _ _ (ih (by omega))
theorem fore_cut {X Y : List ByteArray} (h : fore X Y) : ∃ r, Y = X ++ r := ⟨Y.drop X.length, by
  have := List.take_append_drop X.length Y
  rw [← h.2] at this
  exact this.symm⟩
theorem fore_add (X r : List ByteArray) : fore X (X ++ r) := ⟨by simp, by simp⟩
theorem cmpL_behind : ∀ (D r : List ByteArray), ¬ cmpL (D ++ r) D < 0
  | [], [] => by simp [cmpL]
  | [], _ :: _ => by simp [cmpL]
  | a :: D, r => by
    rw [List.cons_append]
    simp only [cmpL, cmpT_self, if_true]
    exact cmpL_behind D r
/-- What is behind a beginning and does not begin so stands behind all that does. -/
theorem cmpL_apart : ∀ (D z r : List ByteArray), ¬ cmpL z D < 0 → (∀ q, z ≠ D ++ q) → cmpL (D ++ r) z < 0
  | [], z, _, _, h => absurd rfl (h z)
  | a :: D, [], _, h, _ => by simp [cmpL] at h
  | a :: D, b :: z, r, h1, h2 => by
    rw [List.cons_append]
    simp only [cmpL] at h1 ⊢
    have hs := cmpT_swap a b
    by_cases e : cmpT a b = 0
    · have e2 := cmpT_zero e
      subst e2
      rw [if_pos e] at h1 ⊢
      exact cmpL_apart D z r h1 (fun q hq => h2 q (by rw [hq]; rfl))
    · rw [if_neg (by omega)] at h1
      rw [if_neg e]
      omega
theorem fore_self (X : List ByteArray) : fore X X := by
  have := fore_add X []
  rwa [List.append_nil] at this
theorem sort_told (l : List ByteArray) (h1 : l.length ≤ 100000) (h2 : ∀ x ∈ l, x.size ≤ 2000000) : path_Sort.f l = some (isort l) := by
  unfold path_Sort.f
  exact if_pos ⟨h1, h2⟩
theorem behind_of {dir p : ByteArray} (h : fore (parts dir) (parts p)) : leT dir p := by
  obtain ⟨r, hr⟩ := fore_cut h
  unfold leT
  rw [hr]
  exact cmpL_behind _ _
theorem apart_of {dir z p : ByteArray} (h1 : leT dir z) (h2 : ¬ fore (parts dir) (parts z)) (h3 : fore (parts dir) (parts p)) : ¬ leT z p := by
  obtain ⟨r, hr⟩ := fore_cut h3
  unfold leT
  rw [hr]
  exact fun h => h (cmpL_apart _ _ _ h1 (fun q hq => h2 (by rw [hq]; exact fore_add _ _)))
theorem loop_told (dir : ByteArray) (S : List ByteArray) (hs : S.Pairwise leT) (hm : dir ∈ S) (hz : ∀ x ∈ S, x.size ≤ 300) (hd : dir.size ≤ 300) (hl : S.length ≤ 1000) : ∀ (m i : Nat) (x8 x9 : Bool), S.length - i = m → i ≤ S.length →
    (x8 = true ↔ ∃ j p, j < i ∧ S[j]? = some p ∧ fore (parts dir) (parts p)) → (x9 = true → ∃ j z, j < i ∧ S[j]? = some z ∧ leT dir z ∧ ¬ fore (parts dir) (parts z)) → ∀ k, 2 * m + 1000 < k →
    garretlaw17_PathTogether.l1 k dir S x8 x9 S (S.length : Int) (i : Int) = some true := by
  intro m
  induction m with
  | zero =>
    intro i x8 x9 h1 h2 h3 h4 k hk
    obtain ⟨k, rfl⟩ : ∃ q, k = q + 1 := ⟨k - 1, by omega⟩
    unfold garretlaw17_PathTogether.l1
    rw [if_neg (by omega)]
    obtain ⟨j, hj, e⟩ := List.getElem_of_mem hm
    rw [h3.2 ⟨j, dir, by omega, by rw [List.getElem?_eq_getElem hj, e], fore_self _⟩]
  | succ m ih =>
    intro i x8 x9 h1 h2 h3 h4 k hk
    obtain ⟨k, rfl⟩ : ∃ q, k = q + 2 := ⟨k - 2, by omega⟩
    have hi : i < S.length := by omega
    have hle : ∀ j, (hj : j < i) → leT (S[j]'(by omega)) S[i] := fun j hj => List.pairwise_iff_getElem.1 hs j i (by omega) hi hj
    have hsz : ∀ j, (hj : j < S.length) → (S[j]).size ≤ 300 := fun j hj => hz _ (List.getElem_mem hj)
    have ep : rdOf ByteArray.empty S (i : Int) = S[i] := by simp [rdOf, List.getD_eq_getElem?_getD, hi]
    have ew : wrap64 ((i : Int) + 1) = ((i + 1 : Nat) : Int) := by unfold wrap64; omega
    have hself := fore_self (parts dir)
    have hm1 : S.length - (i + 1) = m := by clear h3 h4 ih hle hsz ep ew; omega
    have hi1 : i + 1 ≤ S.length := by clear h3 h4 ih hle hsz ep ew; omega
    have hk1 : 2 * m + 1000 < k := by clear h3 h4 ih hle hsz ep ew; omega
    have key : garretlaw17_PathTogether.j3 (k + 1) dir S x8 x9 S[i] S (S.length : Int) (i : Int) false = some true := by
      unfold garretlaw17_PathTogether.j3
      rw [if_neg (by simp), within_told k dir S[i] (by omega) (by have := hsz i hi; omega) (by omega), ew]
      by_cases hin : fore (parts dir) (parts S[i])
      · rw [if_pos hin]
        simp only [Option.bind_some, if_true]
        have n9 : x9 = false := by
          cases e9 : x9 with
          | false => rfl
          | true =>
            exfalso
            obtain ⟨j, z, hj, ez, hz1, hz2⟩ := h4 e9
            rw [List.getElem?_eq_getElem (by omega)] at ez
            obtain rfl := Option.some.inj ez
            exact apart_of hz1 hz2 hin (hle j hj)
        subst n9
        rw [if_neg (by simp)]
        have fin : garretlaw17_PathTogether.l1 k dir S true false S (S.length : Int) ((i + 1 : Nat) : Int) = some true :=
          ih (i + 1) true false hm1 hi1 ⟨fun _ => ⟨i, S[i], by omega, List.getElem?_eq_getElem hi, hin⟩, fun _ => rfl⟩ (fun h => by simp at h) k hk1
        cases e8 : x8 with
        | true => simp only [if_true, Bool.not_true]; exact fin
        | false =>
          have hp : S[i] = dir := by
            obtain ⟨j, hj, e⟩ := List.getElem_of_mem hm
            rcases Nat.lt_or_ge j i with hji | hji
            · have := h3.2 ⟨j, dir, hji, by rw [List.getElem?_eq_getElem hj, e], hself⟩
              rw [e8] at this
              cases this
            · rcases Nat.lt_or_eq_of_le hji with hji | hji
              · have hb := behind_of hin
                have h5 := List.pairwise_iff_getElem.1 hs i j hi hj hji
                rw [e] at h5
                exact leT_anti h5 hb
              · subst hji
                exact e
          rw [if_neg (by simp), if_pos (by rw [hp])]
          exact fin
      · rw [if_neg hin]
        simp only [Option.bind_some]
        have stay : (x8 = true ↔ ∃ j p, j < i + 1 ∧ S[j]? = some p ∧ fore (parts dir) (parts p)) := by
          refine h3.trans ⟨fun ⟨j, p, hj, h⟩ => ⟨j, p, by omega, h⟩, fun ⟨j, p, hj, h5, h6⟩ => ?_⟩
          rcases Nat.lt_or_ge j i with hji | hji
          · exact ⟨j, p, hji, h5, h6⟩
          · obtain rfl : j = i := by omega
            rw [List.getElem?_eq_getElem hi] at h5
            obtain rfl := Option.some.inj h5
            exact absurd h6 hin
        have h4' : x9 = true → ∃ j z, j < i + 1 ∧ S[j]? = some z ∧ leT dir z ∧ ¬ fore (parts dir) (parts z) := fun h => by
          obtain ⟨j, z, hj, h5⟩ := h4 h
          exact ⟨j, z, by omega, h5⟩
        have go := ih (i + 1) x8
        cases e8 : x8 with
        | true =>
          subst e8
          have h9 : ∃ j z, j < i + 1 ∧ S[j]? = some z ∧ leT dir z ∧ ¬ fore (parts dir) (parts z) := by
            obtain ⟨j, p, hj, h5, h6⟩ := h3.1 rfl
            rw [List.getElem?_eq_getElem (by omega)] at h5
            obtain rfl := Option.some.inj h5
            exact ⟨i, S[i], by omega, List.getElem?_eq_getElem hi, leT_trans (behind_of h6) (hle j hj), hin⟩
          have fin := go true hm1 hi1 stay (fun _ => h9) k hk1
          cases x9 <;> simpa using fin
        | false =>
          subst e8
          have fin := go x9 hm1 hi1 stay h4' k hk1
          cases e9 : x9 <;> (subst e9; simpa using fin)
    rw [show k + 2 = (k + 1) + 1 from rfl]
    unfold garretlaw17_PathTogether.l1
    rw [if_pos (by omega), if_pos (by omega), if_pos (by omega), ep]
    by_cases h0 : (i : Int) > 0
    · have em : wrap64 ((i : Int) - 1) = ((i - 1 : Nat) : Int) := by unfold wrap64; omega
      have eq : rdOf ByteArray.empty S ((i - 1 : Nat) : Int) = S[i - 1]'(by omega) := by simp [rdOf, List.getD_eq_getElem?_getD, show i - 1 < S.length by omega]
      have h5 : ¬ cmpL (parts S[i]) (parts (S[i - 1]'(by omega))) < 0 := hle (i - 1) (by omega)
      have s1 := hsz i hi
      have s2 := hsz (i - 1) (by omega)
      rw [if_pos h0, em, if_pos (by omega), if_pos (by omega), eq, less_told (k + 1) _ _ (by omega) (by omega) (by omega), decide_eq_false h5]
      simp only [Option.bind_some]
      exact key
    · rw [if_neg h0]
      exact key
theorem end_told (dir : ByteArray) (l : List ByteArray) (hd : dir.size ≤ 300) (hl : l.length ≤ 60) (hall : ∀ x ∈ l ++ [dir], x.size ≤ 300) (k : Nat) (hk : 1500 < k) :
    garretlaw17_PathTogether.l0 (k + 1) l dir l (l.length : Int) (l.length : Int) = some true := by
  have h1 : path_Sort.f (l ++ [dir]) = some (isort (l ++ [dir])) := sort_told _ (by rw [List.length_append, List.length_singleton]; omega) (fun x hx => Nat.le_trans (hall x hx) (by omega))
  have hp := isort_perm (l ++ [dir])
  have hlen : (isort (l ++ [dir])).length = l.length + 1 := by rw [hp.length_eq, List.length_append, List.length_singleton]
  have hs := isort_sorted (l ++ [dir])
  have hm : dir ∈ isort (l ++ [dir]) := hp.mem_iff.2 (by simp)
  have hz : ∀ x ∈ isort (l ++ [dir]), x.size ≤ 300 := fun x hx => hall x (hp.mem_iff.1 hx)
  generalize isort (l ++ [dir]) = S at h1 hlen hs hm hz
  have fin : garretlaw17_PathTogether.l1 k dir S false false S (S.length : Int) ((0 : Nat) : Int) = some true :=
    loop_told dir S hs hm hz hd (by omega) S.length 0 false false (Nat.sub_zero _) (Nat.zero_le _) ⟨fun h => by simp at h, fun ⟨j, p, hj, _⟩ => absurd hj (Nat.not_lt_zero j)⟩ (fun h => by simp at h) k (by omega)
  have e1 : (S.length : Int) = wrap64 ((l.length : Int) + 1) := by rw [hlen]; unfold wrap64; omega
  have e2 : ([] : List ByteArray).length + l.length < 8796093022208 := by simp only [List.length_nil, Nat.zero_add]; omega
  have e3 : (([] : List ByteArray) ++ l).length < 8796093022208 := by simp only [List.nil_append]; omega
  clear hs hm hz hp hlen hall
  unfold garretlaw17_PathTogether.l0
  rw [if_neg (Int.lt_irrefl _), Option.bind_some, if_pos e2, Option.bind_some, if_pos e3, List.nil_append, h1, Option.bind_some, if_pos e1]
  exact fin
theorem j0_true (k : Nat) (l : List ByteArray) (d : ByteArray) : garretlaw17_PathTogether.j0 (k + 1) l d true = some true := by
  unfold garretlaw17_PathTogether.j0
  exact if_pos rfl
theorem j0_false (k : Nat) (l : List ByteArray) (d : ByteArray) : garretlaw17_PathTogether.j0 (k + 1) l d false = garretlaw17_PathTogether.l0 k l d l (l.length : Int) 0 := by
  unfold garretlaw17_PathTogether.j0
  exact if_neg (by simp)
theorem guard_told (dir : ByteArray) (l : List ByteArray) (hd : dir.size ≤ 300) (hl : l.length ≤ 60) : ∀ (m i : Nat), l.length - i = m → i ≤ l.length → (∀ j, (hj : j < l.length) → j < i → (l[j]).size ≤ 300) → ∀ k, m + 2000 < k →
    garretlaw17_PathTogether.l0 k l dir l (l.length : Int) (i : Int) = some true := by
  intro m
  induction m with
  | zero =>
    intro i h1 h2 h3 k hk
    obtain ⟨k, rfl⟩ : ∃ q, k = q + 1 := ⟨k - 1, by omega⟩
    obtain rfl : i = l.length := by omega
    refine end_told dir l hd hl (fun x hx => ?_) k (by omega)
    rcases List.mem_append.1 hx with hx | hx
    · obtain ⟨j, hj, rfl⟩ := List.getElem_of_mem hx
      exact h3 j hj (by omega)
    · rw [List.mem_singleton.1 hx]; exact hd
  | succ m ih =>
    intro i h1 h2 h3 k hk
    obtain ⟨k, rfl⟩ : ∃ q, k = q + 1 := ⟨k - 1, by omega⟩
    have hi : i < l.length := by omega
    have ep : rdOf ByteArray.empty l (i : Int) = l[i] := by simp [rdOf, List.getD_eq_getElem?_getD, hi]
    have ew : wrap64 ((i : Int) + 1) = ((i + 1 : Nat) : Int) := by unfold wrap64; omega
    unfold garretlaw17_PathTogether.l0
    rw [if_pos (by omega), if_pos (by omega), if_pos (by omega), ep]
    by_cases hz : ((l[i]).size : Int) > 300
    · rw [if_pos hz]
    · rw [if_neg hz, ew]
      refine ih (i + 1) (by omega) (by omega) (fun j hj hji => ?_) k (by omega)
      rcases Nat.lt_or_ge j i with h | h
      · exact h3 j hj h
      · obtain rfl : j = i := by omega
        omega
theorem PathTogether : garretlaw17_PathTogether.Pure := fun l dir hl hd => ⟨5000, by
  unfold garretlaw17_PathTogether.f
  rw [works_more _ (by omega)]
  simp only [Option.bind_some, if_true]
  by_cases h1 : (l.length : Int) > 60
  · rw [if_pos h1]
    exact j0_true 4999 l dir
  · rw [if_neg h1]
    by_cases h2 : (dir.size : Int) > 300
    · rw [decide_eq_true h2]
      exact j0_true 4999 l dir
    · rw [decide_eq_false h2]
      refine (j0_false 4999 l dir).trans ?_
      exact guard_told dir l (by omega) (by omega) _ 0 rfl (Nat.zero_le _) (fun j _ h => by omega) _ (by omega)⟩
end Go.Proofs.YtcmajhdgaeploaaDoor.Pure
