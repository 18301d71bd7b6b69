/- What package path tells of names, and of what is a path. -/
import Derived.Test.YtfihbohdhcidbaaDoorZSnpOPathTA
import Derived.Test.YtfihbohdhcidbaaDoorQSnpOx4
import Derived.Test.YtfihbohdhcidbaaDoorYPathNames
namespace Go.Proofs.YtfihbohdhcidbaaDoor.QSnpO
open Go.RowKit Go.Proofs.YtfihbohdhcidbaaDoorW.PrintWords Go.Proofs.YtfihbohdhcidbaaDoorW.PrintLast
open Go Go.Proofs.YtfihbohdhcidbaaDoor.PathOrd
theorem isName_told (k : Nat) (a : ByteArray) : path_IsName.f (k + 1) a = some (nameB a) := by
  have hl : ∀ l : List UInt8, (a.toList == l) = decide (a.data.toList = l) := fun l => by
    rw [show a.toList = a.data.toList from ByteArray.toList_eq a]
    by_cases e : a.data.toList = l
    · rw [decide_eq_true e, beq_iff_eq]; exact e
    · rw [decide_eq_false e, beq_eq_false_iff_ne]; exact e
  have he : a.toList = a.data.toList := ByteArray.toList_eq a
  unfold path_IsName.f
  have j : ∀ b : Bool, path_IsName.j0 (k + 1) a b = some (!b && decide (a.size ≤ 64 ∧ Lib.indexByte a.data.toList 0 < 0 ∧ Lib.indexByte a.data.toList 47 < 0)) := fun b => by
    unfold path_IsName.j0
    cases b with
    | true => rfl
    | false =>
      dsimp only
      rw [if_neg (by simp)]
      by_cases h1 : (a.size : Int) ≤ 64
      · rw [if_pos h1]
        have h1' : a.size ≤ 64 := by omega
        simp only [strings_IndexByte.f, Option.bind_some]
        rw [show ((0 : Int).toNat.toUInt8) = 0 from rfl]
        by_cases h2 : Lib.indexByte a.data.toList 0 < 0
        · rw [if_pos h2]
          simp only [strings_Contains.f]
          rw [if_pos (by decide)]
          simp only [Option.bind_some]
          rw [show ((⟨#[47]⟩ : ByteArray).data.toList.getD 0 0) = 47 from rfl]
          by_cases h3 : Lib.indexByte a.data.toList 47 < 0
          · rw [decide_eq_false (show ¬ (0 : Int) ≤ Lib.indexByte a.data.toList 47 by omega), decide_eq_true ⟨h1', h2, h3⟩]
            rfl
          · rw [decide_eq_true (show (0 : Int) ≤ Lib.indexByte a.data.toList 47 by omega), decide_eq_false (fun h => h3 h.2.2)]
            rfl
        · rw [if_neg h2, decide_eq_false (fun h => h2 h.2.1)]
          rfl
      · rw [if_neg h1, decide_eq_false (fun h => h1 (by omega))]
        rfl
  rw [j, j, j, hl, hl, hl, he]
  unfold nameB
  by_cases e1 : a.data.toList = []
  · rw [if_pos e1]; simp [e1]
  rw [if_neg e1]
  by_cases e2 : a.data.toList = [46]
  · rw [if_pos e2]; simp [e2]
  rw [if_neg e2]
  by_cases e3 : a.data.toList = [46, 46]
  · simp [e3]
  · simp [e1, e2, e3]
theorem is_l (L : List ByteArray) (hL : L.length ≤ 4294967296) : ∀ (k i : Nat) (acc : Int), i ≤ L.length → 0 ≤ acc → acc ≤ 65 * (i : Int) → L.length - i + 1 < k →
    path_is.l0 k L acc L (L.length : Int) (i : Int) = some ((L.drop i).all nameB && decide (0 < L.length ∧ L.length ≤ 4096 ∧ acc + (total (L.drop i) : Int) - 1 ≤ 65536))
  | 0, _, _, _, _, _, h => by omega
  | k + 1, i, acc, hi, h0, ha, h => by
    unfold path_is.l0
    by_cases hx : i < L.length
    · rw [if_pos (by omega), if_pos (by omega), if_pos (by omega)]
      have ex : rdOf ByteArray.empty L (i : Int) = L[i] := by simp [rdOf, List.getD_eq_getElem?_getD, hx]
      rw [ex, List.drop_eq_getElem_cons hx]
      obtain ⟨m, rfl⟩ : ∃ m, k = m + 1 := ⟨k - 1, by omega⟩
      rw [isName_told m]
      simp only [Option.bind_some, List.all_cons]
      by_cases hn : nameB L[i] = true
      · rw [if_pos hn, hn, Bool.true_and]
        have hs := nameB_size hn
        rw [show wrap64 ((i : Int) + 1) = ((i + 1 : Nat) : Int) by unfold wrap64; omega, show wrap64 (acc + wrap64 ((L[i].size : Int) + 1)) = acc + ((L[i].size : Int) + 1) by unfold wrap64; omega]
        rw [is_l L hL (m + 1) (i + 1) _ (by omega) (by omega) (by omega) (by omega)]
        simp only [total]
        congr 2
        apply decide_eq_decide.2
        constructor
        · rintro ⟨a, b, c⟩; exact ⟨a, b, by omega⟩
        · rintro ⟨a, b, c⟩; exact ⟨a, b, by omega⟩
      · rw [if_neg hn]
        simp only [Bool.not_eq_true] at hn
        rw [hn]
        rfl
    · rw [if_neg (by omega)]
      have : L.drop i = [] := List.drop_eq_nil_of_le (by omega)
      rw [this]
      have ht : total ([] : List ByteArray) = 0 := rfl
      simp only [List.all_nil, Bool.true_and]
      rw [show wrap64 (acc - 1) = acc - 1 by unfold wrap64; omega]
      by_cases h1 : (L.length : Int) > 0
      · rw [if_pos h1]
        by_cases h2 : (L.length : Int) ≤ 4096
        · rw [if_pos h2]
          congr 1
          apply decide_eq_decide.2
          constructor
          · intro c; exact ⟨by omega, by omega, by omega⟩
          · rintro ⟨a, b, c⟩; omega
        · rw [if_neg h2, decide_eq_false (fun h => h2 (by omega))]
      · rw [if_neg h1, decide_eq_false (fun h => h1 (by omega))]
theorem is_told (k : Nat) (L : List ByteArray) (hL : L.length ≤ 4294967296) (hk : L.length + 1 < k) : path_is.f k L = some (isB L) := by
  have h := is_l L hL k 0 0 (Nat.zero_le _) (by omega) (by omega) (by omega)
  unfold path_is.f
  rw [show ((0 : Nat) : Int) = 0 from rfl] at h
  rw [h]
  simp [isB]
theorem splitf_told (k : Nat) (p : ByteArray) (hp : p.size ≤ 2000000) (hk : p.size + 2 < k) : path_Split.f k p = some (if isB (parts p) = true then (parts p, 0) else ([], 170)) := by
  have := parts_len p
  unfold path_Split.f
  rw [parts_told p hp]
  simp only [Option.bind_some]
  rw [is_told k _ (by omega) (by omega)]
  simp only [Option.bind_some]
  cases isB (parts p) <;> rfl
end Go.Proofs.YtfihbohdhcidbaaDoor.QSnpO
