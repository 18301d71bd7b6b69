/- How two snapshots stand, as it is printed: its plain meaning. -/
import Derived.Test.YtfihbohdhcidbaaDoorQSnpOx4
import Derived.Test.YtfihbohdhcidbaaDoorYPathOrd
namespace Go.Proofs.YtfihbohdhcidbaaDoor.QSnpO
open Go.RowKit Go.Proofs.YtfihbohdhcidbaaDoorW.PrintWords Go.Proofs.YtfihbohdhcidbaaDoorW.PrintLast
open Go Go.Proofs.YtfihbohdhcidbaaDoor.PathOrd
set_option linter.unusedVariables false
theorem scompare_l (X Y : List ByteArray) (hX : X.length ≤ 4294967296) : ∀ (k : Nat) (i : Nat), i ≤ X.length → i ≤ Y.length → X.length - i < k → slices_Compare_string_string.l0 k X Y X (X.length : Int) (i : Int) = some (cmpL (X.drop i) (Y.drop i))
  | 0, _, _, _, h => by omega
  | k + 1, i, hi, hj, h => by
    unfold slices_Compare_string_string.l0
    by_cases hx : i < X.length
    · rw [if_pos (by omega), if_pos (by omega), if_pos (by omega)]
      rw [List.drop_eq_getElem_cons hx]
      by_cases hy : i < Y.length
      · rw [if_neg (by omega), if_pos (by omega)]
        rw [List.drop_eq_getElem_cons hy]
        have ex : rdOf ByteArray.empty X (i : Int) = X[i] := by simp [rdOf, List.getD_eq_getElem?_getD, hx]
        have ey : rdOf ByteArray.empty Y (i : Int) = Y[i] := by simp [rdOf, List.getD_eq_getElem?_getD, hy]
        rw [ex, ey]
        unfold cmp_Compare_string.f
        simp only [Option.bind_some, cmpL]
        by_cases e : cmpT X[i] Y[i] = 0
        · rw [if_pos e, if_pos e]
          rw [show wrap64 ((i : Int) + 1) = ((i + 1 : Nat) : Int) by unfold wrap64; omega]
          exact scompare_l X Y hX k (i + 1) (by omega) (by omega) (by omega)
        · rw [if_neg e, if_neg e]
      · rw [if_pos (by omega)]
        have : Y.drop i = [] := List.drop_eq_nil_of_le (by omega)
        rw [this]
        rfl
    · rw [if_neg (by omega)]
      have : X.drop i = [] := List.drop_eq_nil_of_le (by omega)
      rw [this]
      by_cases hy : i < Y.length
      · rw [if_pos (by omega), List.drop_eq_getElem_cons hy]
        rfl
      · rw [if_neg (by omega), List.drop_eq_nil_of_le (by omega)]
        rfl
theorem scompare_told (k : Nat) (X Y : List ByteArray) (hX : X.length ≤ 4294967296) (hk : X.length < k) : slices_Compare_string_string.f k X Y = some (cmpL X Y) := by
  have h := scompare_l X Y hX k 0 (Nat.zero_le _) (Nat.zero_le _) (by omega)
  simpa [slices_Compare_string_string.f] using h
/-- How two whole numbers stand. -/
def cmpI (a b : Int) : Int := if a < b then -1 else if a > b then 1 else 0
theorem cmpI_told (a b : Int) : cmp_Compare_int.f a b = some (cmpI a b) := by
  unfold cmp_Compare_int.f cmp_isNaN_int.f cmpI
  have h : ∀ x : Int, (x != x) = false := fun x => by simp
  simp only [h, Option.bind_some, Bool.false_eq_true, if_false]
  split
  · rfl
  · split <;> rfl
/-- The first one that is not 0. -/
def firstNZ : List Int → Int
  | [] => 0
  | a :: l => if a = 0 then firstNZ l else a
theorem or_l (L : List Int) (hL : L.length ≤ 1000) : ∀ (k i : Nat), i ≤ L.length → L.length - i < k → cmp_Or_int.l0 k 0 L (L.length : Int) (i : Int) = some (firstNZ (L.drop i))
  | 0, _, _, h => by omega
  | k + 1, i, hi, h => by
    unfold cmp_Or_int.l0
    by_cases hx : i < L.length
    · rw [if_pos (by omega), if_pos (by omega), if_pos (by omega), List.drop_eq_getElem_cons hx]
      have ex : rd L (i : Int) = L[i] := by simp [rd, List.getD_eq_getElem?_getD, hx]
      rw [ex]
      simp only [firstNZ]
      by_cases e : L[i] = 0
      · rw [if_pos e, if_pos e, show wrap64 ((i : Int) + 1) = ((i + 1 : Nat) : Int) by unfold wrap64; omega]
        exact or_l L hL k (i + 1) (by omega) (by omega)
      · rw [if_neg e, if_neg e]
    · rw [if_neg (by omega), List.drop_eq_nil_of_le (by omega)]
      rfl
theorem or_told (k : Nat) (L : List Int) (hL : L.length ≤ 1000) (hk : L.length < k) : cmp_Or_int.f k L = some (firstNZ L) := by
  have h := or_l L hL k 0 (Nat.zero_le _) (by omega)
  unfold cmp_Or_int.f
  exact h
/-- The order of snapshots. -/
def ordS (t : Int) (h : ByteArray) (p g : List ByteArray) (r q : ByteArray) (t' : Int) (h' : ByteArray) (p' g' : List ByteArray) (r' q' : ByteArray) : Int :=
  firstNZ [cmpI t t', cmpT h h', cmpL p p', cmpL g g', cmpT r r', cmpT q q']
theorem order_told (k : Nat) (t : Int) (h : ByteArray) (p g : List ByteArray) (r q : ByteArray) (t' : Int) (h' : ByteArray) (p' g' : List ByteArray) (r' q' : ByteArray) (hp : p.length ≤ 4294967296) (hg : g.length ≤ 4294967296) (kp : p.length < k) (kg : g.length < k) (k6 : 6 < k) :
    snap_order.f k t h p g r q t' h' p' g' r' q' = some (ordS t h p g r q t' h' p' g' r' q') := by
  unfold snap_order.f
  rw [cmpI_told]
  simp only [Option.bind_some, cmp_Compare_string.f]
  rw [scompare_told k p p' hp kp]
  simp only [Option.bind_some]
  rw [scompare_told k g g' hg kg]
  simp only [Option.bind_some]
  rw [or_told k _ (by simp) (by simpa using k6)]
  rfl
end Go.Proofs.YtfihbohdhcidbaaDoor.QSnpO
