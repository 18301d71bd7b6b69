/- What the printed functions of package path tell: their plain meaning. -/
import Derived.Test.YtcmajhdgaeploaaDoorQPthTx1
import Derived.Test.YtcmajhdgaeploaaDoorYPathSpl
namespace Go.Proofs.YtcmajhdgaeploaaDoor.QPthT
open Go.RowKit Go.Proofs.YtcmajhdgaeploaaDoorW.PrintWords Go.Proofs.YtcmajhdgaeploaaDoorW.PrintLast
open Go Go.Proofs.YtcmajhdgaeploaaDoor.PathOrd
theorem nil_iff (a : ByteArray) : a.toList = ([] : List UInt8) ↔ a.data.toList = [] := by
  rw [show a.toList = a.data.toList from ByteArray.toList_eq a]
theorem split_told (a : ByteArray) (h : a.size ≤ 2000000) (hn : a.data.toList ≠ []) : strings_Split.f a ⟨#[47]⟩ = some (parts a) := by
  unfold strings_Split.f
  have h1 : 1 ≤ (⟨#[47]⟩ : ByteArray).size := by decide
  have h2 := Lib.countB_le ⟨#[47]⟩ h1 a.size a (Nat.le_refl _)
  rw [if_pos ⟨by omega, h1, by omega, Lib.splitB_all _ h1 0 _ a rfl⟩, splitB_parts a hn]
theorem parts_told (a : ByteArray) (h : a.size ≤ 2000000) : path_parts.f a = some (parts a) := by
  unfold path_parts.f
  by_cases hn : a.data.toList = []
  · rw [if_pos ((nil_iff a).2 hn)]
    unfold parts
    rw [if_pos hn]
  · rw [if_neg (fun e => hn ((nil_iff a).1 e)), split_told a h hn]
    rfl
theorem spl_len : ∀ l : List UInt8, (spl l).length ≤ l.length + 1
  | [] => by simp [spl]
  | c :: l => by
    have := spl_len l
    simp only [spl]
    split
    · simp only [List.length_cons]; omega
    · split
      · simp
      · rename_i e; rw [e] at this; simp only [List.length_cons] at this ⊢; omega
theorem parts_len (a : ByteArray) : (parts a).length ≤ a.size + 1 := by
  unfold parts
  split
  · simp
  · rw [List.length_map]; exact spl_len _
end Go.Proofs.YtcmajhdgaeploaaDoor.QPthT
