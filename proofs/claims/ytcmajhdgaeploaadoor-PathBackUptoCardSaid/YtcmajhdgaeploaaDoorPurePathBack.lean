/- PathBack, the plain part: there and back. -/
import Derived.Test.YtcmajhdgaeploaaDoorZPthBPathTold2
import Derived.Test.YtcmajhdgaeploaaDoorQPthBx3
namespace Go.Proofs.YtcmajhdgaeploaaDoor.Pure
open Go.RowKit Go.Proofs.YtcmajhdgaeploaaDoor.QPthB Go.Proofs.YtcmajhdgaeploaaDoorW.PrintWords Go.Proofs.YtcmajhdgaeploaaDoorW.PrintLast
open Go Go.Proofs.YtcmajhdgaeploaaDoor.PathOrd
set_option maxRecDepth 100000
set_option linter.unusedSimpArgs false
theorem works_told : garretlaw17_works.f 10 = some true := by decide +kernel
theorem works_more (k : Nat) (h : 10 ≤ k) : garretlaw17_works.f k = some true := by
  obtain ⟨j, rfl⟩ := Nat.exists_eq_add_of_le h
  induction j with
  | zero => exact works_told
  | succ j ih => exact garretlaw17_works.mono _ _ (ih (by omega))
theorem toList_ne {x : ByteArray} (h : x.data.toList ≠ []) : ¬ x.toList = ([] : List UInt8) := by
  rw [ByteArray.toList_eq]; exact h
theorem PathBack : garretlaw17_PathBack.Pure := fun p hp => ⟨2000002, by
  unfold garretlaw17_PathBack.f
  rw [works_more _ (by omega)]
  simp only [Option.bind_some, if_true]
  rw [splitf_told _ p (by omega) (by omega), parent_told _ p (by omega) (by omega)]
  simp only [Option.bind_some]
  by_cases hb : isB (parts p) = true
  · rw [if_pos hb, if_pos hb]
    simp only [if_true, bne_self_eq_false]
    rw [show (2000002 : Nat) = 2000001 + 1 from rfl]
    unfold garretlaw17_PathBack.j0
    dsimp only
    rw [if_neg (by simp)]
    have hlen := parts_len p
    have htot := total_parts p
    have hall := isB_all hb
    have hpos := isB_ne hb
    -- the last name, and what stands ahead of it
    generalize hL : parts p = L at hb hlen htot hall hpos
    obtain ⟨D, x, rfl⟩ : ∃ D x, L = D ++ [x] := by
      refine ⟨L.dropLast, L.getLast (by intro e; subst e; simp at hpos), ?_⟩
      exact (List.dropLast_concat_getLast _).symm
    have hD : ∀ y ∈ D, nameB y = true := fun y hy => hall y (by simp [hy])
    have hx : nameB x = true := hall x (by simp)
    have eD : (D ++ [x]).take ((D ++ [x]).length - 1) = D := by simp
    have ex : (D ++ [x]).getD ((D ++ [x]).length - 1) ByteArray.empty = x := by simp [List.getD_eq_getElem?_getD]
    rw [eD, ex]
    have hpd : parts (jnT D) = D := parts_jnT D hD
    have hsz : (jnT D).size ≤ 1048577 := by
      have h1 := jnT_size D
      have h2 := total_append D [x]
      omega
    have hj : jnT (D ++ [x]) = p := by rw [← hL, jnT_parts]
    have hfore : fore D (D ++ [x]) := ⟨by simp, by simp⟩
    have hdrop : (D ++ [x]).drop D.length = [x] := by simp
    rw [joinf_told _ _ (by omega) (fun _ => by omega) (by omega), if_pos hb, hj]
    rw [within_told _ _ p (by omega) (by omega) (by omega), hpd, hL, if_pos hfore, hdrop, jnT_one]
    simp only [Option.bind_some, if_true]
    rw [less_told _ (jnT D) p (by omega) (by omega) (by omega), less_told _ p (jnT D) (by omega) (by omega) (by omega), hpd, hL, cmpL_swap D, cmpL_front]
    rw [isName_told, hx]
    have er : rdOf ByteArray.empty (D ++ [x]) (wrap64 (((D ++ [x]).length : Int) - 1)) = x := by
      have : wrap64 (((D ++ [x]).length : Int) - 1) = (((D ++ [x]).length - 1 : Nat) : Int) := by unfold wrap64; omega
      rw [this]; simp [rdOf, List.getD_eq_getElem?_getD]
    have hw : wrap64 (((D ++ [x]).length : Int) - 1) = (((D ++ [x]).length - 1 : Nat) : Int) := by unfold wrap64; omega
    rw [er, hw]
    simp only [Option.bind_some]
    rw [show decide ((-1 : Int) < 0) = true from rfl, show decide (-(-1 : Int) < 0) = false from rfl]
    simp only [if_true, Bool.false_eq_true, if_false]
    rw [if_pos (show (0 : Int) ≤ (((D ++ [x]).length - 1 : Nat) : Int) by omega), if_pos (show (((D ++ [x]).length - 1 : Nat) : Int) < ((D ++ [x]).length : Int) by omega)]
    by_cases hd : D = []
    · subst hd
      have hpx : x = p := by rw [← hj, List.nil_append, jnT_one]
      rw [jnT_nil, if_pos (by decide +kernel), hpx]
      simp
    · have hs : jnT D ++ (⟨#[47]⟩ : ByteArray) ++ x = p := by rw [← hj, jnT_snoc D x hd]
      rw [if_neg (toList_ne (jnT_ne D hd hD)), hs, if_pos (by omega), if_pos (by
        have : ((jnT D ++ (⟨#[47]⟩ : ByteArray)) ++ x).size = p.size := by rw [hs]
        rw [ByteArray.size_append] at this
        omega)]
      simp
  · rw [if_neg hb, if_neg hb]
    rw [show (2000002 : Nat) = 2000001 + 1 from rfl]
    unfold garretlaw17_PathBack.j0
    have e0 : (⟨#[]⟩ : ByteArray).toList = ([] : List UInt8) := by rw [ByteArray.toList_eq]
    simp [e0]⟩
end Go.Proofs.YtcmajhdgaeploaaDoor.Pure
