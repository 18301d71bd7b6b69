/- ShaSums, the plain part: the sum of a text, padded, block by block, is the document's; each place's constant, by the kernel. -/
import Derived.Test.YtdfhffhnioamhaaDoorQShaEx2
namespace Go.Proofs.YtdfhffhnioamhaaDoor.Pure
open Go.RowKit Go.Proofs.YtdfhffhnioamhaaDoor.QShaE Go.Proofs.YtdfhffhnioamhaaDoorW.PrintWords Go.Proofs.YtdfhffhnioamhaaDoorW.PrintLast
set_option linter.unusedVariables false
set_option maxRecDepth 100000
theorem bnd {α β : Type} {a : Option α} {x : α} {f : α → Option β} (h : a = some x) : a.bind f = f x := by rw [h]; rfl
theorem works_told : garretlaw02_works.f = some true := by decide +kernel
theorem place_0 : ∀ i : Fin 16, sha_Constant.f 10000 (i.val : Int) = some (((Sha.wd Sha.K i.val).toNat : Int), 0) := by decide +kernel
theorem place_1 : ∀ i : Fin 16, sha_Constant.f 10000 ((i.val + 16 : Nat) : Int) = some (((Sha.wd Sha.K (i.val + 16)).toNat : Int), 0) := by decide +kernel
theorem place_2 : ∀ i : Fin 16, sha_Constant.f 10000 ((i.val + 32 : Nat) : Int) = some (((Sha.wd Sha.K (i.val + 32)).toNat : Int), 0) := by decide +kernel
theorem place_3 : ∀ i : Fin 16, sha_Constant.f 10000 ((i.val + 48 : Nat) : Int) = some (((Sha.wd Sha.K (i.val + 48)).toNat : Int), 0) := by decide +kernel
theorem place_told (i : Nat) (h : i < 64) : sha_Constant.f 10000 (i : Int) = some (((Sha.wd Sha.K i).toNat : Int), 0) := by
  by_cases a : i < 16
  · exact place_0 ⟨i, a⟩
  · by_cases b : i < 32
    · obtain ⟨j, rfl⟩ : ∃ j, i = j + 16 := ⟨i - 16, by omega⟩
      exact place_1 ⟨j, by omega⟩
    · by_cases c : i < 48
      · obtain ⟨j, rfl⟩ : ∃ j, i = j + 32 := ⟨i - 32, by omega⟩
        exact place_2 ⟨j, by omega⟩
      · obtain ⟨j, rfl⟩ : ∃ j, i = j + 48 := ⟨i - 48, by omega⟩
        exact place_3 ⟨j, by omega⟩
theorem constant_same (a : Int) : ∃ r, sha_Constant.f 10000 a = some r ∧ garretref02_Constant.f a = some r := by
  unfold garretref02_Constant.f
  by_cases h : 0 ≤ a ∧ a < 64
  · obtain ⟨i, rfl⟩ : ∃ i : Nat, a = (i : Int) := ⟨a.toNat, by omega⟩
    rw [if_pos h]
    exact ⟨_, place_told i (by omega), rfl⟩
  · rw [if_neg h]
    refine ⟨_, ?_, rfl⟩
    by_cases hn : a < 0
    · unfold sha_Constant.f
      rw [if_pos hn]
      simp only [sha_Constant.j0, if_true]
    · unfold sha_Constant.f
      rw [if_neg hn, decide_eq_true (show a ≥ 64 by omega)]
      simp only [sha_Constant.j0, if_true]
theorem sum_told (a : ByteArray) (h : a.size ≤ 1000000000000) : sha_Sum.f [a] = some ⟨(Sha.digest a.data.toList).toArray⟩ := by
  have hc : sha_Sum.cat [a] = a.data.toList := by simp [sha_Sum.cat]
  unfold sha_Sum.f
  rw [hc, if_pos (by rw [data_length]; exact h)]
theorem digest_told (a : ByteArray) (h : a.size ≤ 1000000) : garretref02_Digest.f a = some ⟨(Sha.digest a.data.toList).toArray⟩ := by
  unfold garretref02_Digest.f
  rw [if_pos h]
theorem ShaSums : garretlaw02_ShaSums.Pure := by
  intro a0 a1 _ _
  refine ⟨10000, ?_⟩
  unfold garretlaw02_ShaSums.f
  by_cases hz : (a0.size : Int) > 3000
  · rw [if_pos hz, bnd works_told]
  · rw [if_neg hz]
    obtain ⟨r, h1, h2⟩ := constant_same a1
    rw [bnd h1, bnd h2, bnd (sum_told a0 (by omega)), bnd (digest_told a0 (by omega)), if_pos rfl, if_pos rfl, if_pos rfl, bnd works_told]
end Go.Proofs.YtdfhffhnioamhaaDoor.Pure
