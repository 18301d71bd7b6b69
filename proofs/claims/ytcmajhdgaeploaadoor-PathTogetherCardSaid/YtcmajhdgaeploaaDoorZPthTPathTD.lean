/- What is within a path, as it is printed: its plain meaning. -/
import Derived.Test.YtcmajhdgaeploaaDoorZPthTPathTJ
import Derived.Test.YtcmajhdgaeploaaDoorQPthTx2
namespace Go.Proofs.YtcmajhdgaeploaaDoor.QPthT
open Go.RowKit Go.Proofs.YtcmajhdgaeploaaDoorW.PrintWords Go.Proofs.YtcmajhdgaeploaaDoorW.PrintLast
open Go Go.Proofs.YtcmajhdgaeploaaDoor.PathOrd
theorem equal_l (X Y : List ByteArray) (hX : X.length = Y.length) (hb : X.length ≤ 4294967296) : ∀ (k i : Nat), i ≤ X.length → X.length - i < k → slices_Equal_string_string.l0 k X Y (X.length : Int) (i : Int) = some (decide (X.drop i = Y.drop i))
  | 0, _, _, h => by omega
  | k + 1, i, hi, h => by
    unfold slices_Equal_string_string.l0
    by_cases hx : i < X.length
    · have hy : i < Y.length := by omega
      rw [if_pos (by omega), if_pos (by omega), if_pos (by omega), if_pos (by omega)]
      have ex : rdOf ByteArray.empty X (i : Int) = X[i] := by simp [rdOf, List.getD_eq_getElem?_getD, hx]
      have ey : rdOf ByteArray.empty Y (i : Int) = Y[i] := by simp [rdOf, List.getD_eq_getElem?_getD, hy]
      rw [ex, ey, List.drop_eq_getElem_cons hx, List.drop_eq_getElem_cons hy, ByteArray.toList_eq, ByteArray.toList_eq]
      by_cases e : X[i] = Y[i]
      · rw [if_pos (by rw [e]), show wrap64 ((i : Int) + 1) = ((i + 1 : Nat) : Int) by unfold wrap64; omega, equal_l X Y hX hb k (i + 1) (by omega) (by omega), e]
        congr 1
        apply decide_eq_decide.2
        simp only [List.cons.injEq, true_and]
      · rw [if_neg (fun h => e (eq_of_list h)), decide_eq_false (fun h => e (List.cons.inj h).1)]
    · rw [if_neg (by omega), List.drop_eq_nil_of_le (by omega), List.drop_eq_nil_of_le (by omega)]
      rfl
theorem equal_told (k : Nat) (X Y : List ByteArray) (hb : X.length ≤ 4294967296) (hk : X.length < k) : slices_Equal_string_string.f k X Y = some (decide (X = Y)) := by
  unfold slices_Equal_string_string.f
  by_cases e : (X.length : Int) = (Y.length : Int)
  · rw [if_pos e]
    have h := equal_l X Y (by omega) hb k 0 (Nat.zero_le _) (by omega)
    rw [show ((0 : Nat) : Int) = 0 from rfl] at h
    rw [h]
    simp
  · rw [if_neg e, decide_eq_false (fun h => e (by rw [h]))]
/-- The first is a beginning of the second. -/
def fore (X Y : List ByteArray) : Prop := X.length ≤ Y.length ∧ X = Y.take X.length
instance (X Y : List ByteArray) : Decidable (fore X Y) := inferInstanceAs (Decidable (_ ∧ _))
theorem within_told (k : Nat) (a b : ByteArray) (ha : a.size ≤ 2000000) (hb : b.size ≤ 2000000) (hk : a.size + 2 < k) : path_Within.f k a b = some (if fore (parts a) (parts b) then (jnT ((parts b).drop (parts a).length), true) else (⟨#[]⟩, false)) := by
  have h1 := parts_len a
  have h2 := parts_len b
  unfold path_Within.f
  rw [parts_told a ha, parts_told b hb]
  simp only [Option.bind_some]
  by_cases hl : (parts a).length ≤ (parts b).length
  · rw [if_neg (by omega), if_pos (by omega), if_pos (by omega), Int.toNat_natCast, equal_told k _ _ (by omega) (by omega)]
    simp only [Option.bind_some]
    by_cases he : parts a = (parts b).take (parts a).length
    · rw [if_pos (decide_eq_true he), join_told _ (by have := total_parts b; have := total_drop (parts b) (parts a).length; omega), if_pos (show fore _ _ from ⟨hl, he⟩)]
      rfl
    · rw [if_neg (by rw [decide_eq_false he]; simp), if_neg (fun h => he h.2)]
  · rw [if_pos (by omega), if_neg (fun h => hl h.1)]
end Go.Proofs.YtcmajhdgaeploaaDoor.QPthT
