/- What the printed functions of package path tell: their plain meaning. -/
import Derived.Test.YtcmajhdgaeploaaDoorQPthBx1
import Derived.Test.YtcmajhdgaeploaaDoorYPathSpl
namespace Go.Proofs.YtcmajhdgaeploaaDoor.QPthB
open Go.RowKit Go.Proofs.YtcmajhdgaeploaaDoorW.PrintWords Go.Proofs.YtcmajhdgaeploaaDoorW.PrintLast
open Go Go.Proofs.YtcmajhdgaeploaaDoor.PathOrd
theorem nil_iff (a : ByteArray) : a.toList = ([] : List UInt8) ↔ a.data.toList = [] := by
  rw [show a.toList = a.data.toList from ByteArray.toList_eq a]
theorem split_told (a : ByteArray) (h : a.size ≤ 2000000) (hn : a.data.toList ≠ []) : strings_Split.f a ⟨#[47]⟩ = some (parts a) := by
  unfold strings_Split.f
  have h1 : 1 ≤ (⟨#[47]⟩ : ByteArray).size := by decide
  have h2 := Lib.countB_le ⟨#[47]⟩ h1 a.size a (Nat.le_refl _)
  rw [if_pos ⟨by omega, h1, by omega, Lib.splitB_all _ h1 0 _ a rfl⟩, splitB_parts a hn]
theorem parts_told (a : ByteArray) (h : a.size ≤ 2000000) : path_parts.f a = some (parts a) := by
  unfold path_parts.f
  by_cases hn : a.data.toList = []
  · rw [if_pos ((nil_iff a).2 hn)]
    unfold parts
    rw [if_pos hn]
  · rw [if_neg (fun e => hn ((nil_iff a).1 e)), split_told a h hn]
    rfl
theorem spl_len : ∀ l : List UInt8, (spl l).length ≤ l.length + 1
  | [] => by simp [spl]
  | c :: l => by
    have := spl_len l
    simp only [spl]
    split
    · simp only [List.length_cons]; omega
    · split
      · simp
      · rename_i e; rw [e] at this; simp only [List.length_cons] at this ⊢; omega
theorem parts_len (a : ByteArray) : (parts a).length ≤ a.size + 1 := by
  unfold parts
  split
  · simp
  · rw [List.length_map]; exact spl_len _
theorem compare_l (X Y : List ByteArray) (hX : X.length ≤ 4294967296) : ∀ (k : Nat) (i : Nat), i ≤ X.length → i ≤ Y.length → X.length - i < k → slices_Compare_string_string.l0 k X Y X (X.length : Int) (i : Int) = some (cmpL (X.drop i) (Y.drop i))
  | 0, _, _, _, h => by omega
  | k + 1, i, hi, hj, h => by
    unfold slices_Compare_string_string.l0
    by_cases hx : i < X.length
    · rw [if_pos (by omega), if_pos (by omega), if_pos (by omega)]
      rw [List.drop_eq_getElem_cons hx]
      by_cases hy : i < Y.length
      · rw [if_neg (by omega), if_pos (by omega)]
        rw [List.drop_eq_getElem_cons hy]
        have ex : rdOf ByteArray.empty X (i : Int) = X[i] := by simp [rdOf, List.getD_eq_getElem?_getD, hx]
        have ey : rdOf ByteArray.empty Y (i : Int) = Y[i] := by simp [rdOf, List.getD_eq_getElem?_getD, hy]
        rw [ex, ey]
        unfold cmp_Compare_string.f
        simp only [Option.bind_some, cmpL]
        by_cases e : cmpT X[i] Y[i] = 0
        · rw [if_pos e, if_pos e]
          rw [show wrap64 ((i : Int) + 1) = ((i + 1 : Nat) : Int) by unfold wrap64; omega]
          exact compare_l X Y hX k (i + 1) (by omega) (by omega) (by omega)
        · rw [if_neg e, if_neg e]
      · rw [if_pos (by omega)]
        have : Y.drop i = [] := List.drop_eq_nil_of_le (by omega)
        rw [this]
        rfl
    · rw [if_neg (by omega)]
      have : X.drop i = [] := List.drop_eq_nil_of_le (by omega)
      rw [this]
      by_cases hy : i < Y.length
      · rw [if_pos (by omega), List.drop_eq_getElem_cons hy]
        rfl
      · rw [if_neg (by omega), List.drop_eq_nil_of_le (by omega)]
        rfl
theorem compare_told (k : Nat) (X Y : List ByteArray) (hX : X.length ≤ 4294967296) (hk : X.length < k) : slices_Compare_string_string.f k X Y = some (cmpL X Y) := by
  have h := compare_l X Y hX k 0 (Nat.zero_le _) (Nat.zero_le _) (by omega)
  simpa [slices_Compare_string_string.f] using h
theorem less_told (k : Nat) (a b : ByteArray) (ha : a.size ≤ 2000000) (hb : b.size ≤ 2000000) (hk : a.size + 1 < k) : path_Less.f k a b = some (decide (cmpL (parts a) (parts b) < 0)) := by
  unfold path_Less.f
  have := parts_len a
  rw [parts_told a ha, parts_told b hb]
  simp only [Option.bind_some]
  rw [compare_told k _ _ (by omega) (by omega)]
  rfl
end Go.Proofs.YtcmajhdgaeploaaDoor.QPthB
