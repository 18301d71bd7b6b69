-- Written for this claim by a program of this session.
import Derived.Test.YtfhipccjnmfefaaQNumx0
import Derived.Test.YtfhipccjnmfefaaQNumx1
import Derived.Test.YtfhipccjnmfefaaQNumx2
import Derived.Test.YtfhipccjnmfefaaQNumx3
namespace Go.Proofs.Ytfhipccjnmfefaa.QNum
open Go.RowKit Go.Proofs.YtfhipccjnmfefaaW.PrintWords Go.Proofs.YtfhipccjnmfefaaW.PrintLast Go.Proofs.YtfhipccjnmfefaaW.PrintMore
attribute [local go_sem] max2_int min2_int max_two min_two max_three min_three max_four min_four   -- for this text's walks alone
set_option linter.unusedVariables false
set_option linter.unusedSimpArgs false

/-! ### garretlaw01_NumBack: function 7 -/
mutual
def garretlaw01_NumBack.l0 : Nat → List Int → List ByteArray → ByteArray → Int → Option (Bool)
  | 0, _, _, _, _ => none
  | k + 1, x0, x1, x5, x6 => if x6 < (x0.length : Int) then (garretlaw01_NumBack.j1 k x0 x1 x5 x6 (decide (x6 < 30))) else (garretlaw01_NumBack.j1 k x0 x1 x5 x6 false)
def garretlaw01_NumBack.j1 : Nat → List Int → List ByteArray → ByteArray → Int → Bool → Option (Bool)
  | 0, _, _, _, _, _ => none
  | k + 1, x0, x1, x5, x6, x29 => if x29 = true then (if 0 ≤ x6 then (if x6 < (x0.length : Int) then ((garretbook_Among.f (rd x0 x6) 1099511627776).bind fun t196 => ((num_Fixed.f k t196 5).bind fun bt197 => ((num_Short.f k (rd x0 x6)).bind fun bt200 => (if bt197.2 = 0 then (if ((bt200.2 == 0) != (decide ((rd x0 x6) ≥ 0))) = true then (some false) else (if bt197.1.size + bt200.1.size ≤ 9223372036854775807 then (if x5.size + (bt197.1 ++ bt200.1).size ≤ 9223372036854775807 then (garretlaw01_NumBack.l0 k x0 x1 (x5 ++ (bt197.1 ++ bt200.1)) (wrap64 (x6 + 1))) else (none)) else (none))) else (some false))))) else (none)) else (none)) else (garretlaw01_NumBack.l1 k x0 x1 x5 0)
def garretlaw01_NumBack.l1 : Nat → List Int → List ByteArray → ByteArray → Int → Option (Bool)
  | 0, _, _, _, _ => none
  | k + 1, x0, x1, x5, x11 => if x11 < (x1.length : Int) then (garretlaw01_NumBack.j3 k x0 x1 x5 x11 (decide (x11 < 30))) else (garretlaw01_NumBack.j3 k x0 x1 x5 x11 false)
def garretlaw01_NumBack.j3 : Nat → List Int → List ByteArray → ByteArray → Int → Bool → Option (Bool)
  | 0, _, _, _, _, _ => none
  | k + 1, x0, x1, x5, x11, x73 => if x73 = true then (if 0 ≤ x11 then (if x11 < (x1.length : Int) then (if ((rdOf ByteArray.empty x1 x11).size : Int) ≤ 500 then ((num_Text.f k (rdOf ByteArray.empty x1 x11)).bind fun t205 => (if x5.size + t205.size ≤ 9223372036854775807 then (garretlaw01_NumBack.l1 k x0 x1 (x5 ++ t205) (wrap64 (x11 + 1))) else (none))) else (garretlaw01_NumBack.l1 k x0 x1 x5 (wrap64 (x11 + 1)))) else (none)) else (none)) else ((some (([0, 1] : List Int) : List Int)).bind fun y206 => (garretlaw01_NumBack.l2 k x0 x1 x5 y206 (y206.length : Int) 0))
def garretlaw01_NumBack.l2 : Nat → List Int → List ByteArray → ByteArray → List Int → Int → Int → Option (Bool)
  | 0, _, _, _, _, _, _ => none
  | k + 1, x0, x1, x5, x89, x90, x91 => if x91 < x90 then (if 0 ≤ x91 then (if x91 < (x89.length : Int) then (if (x5.size : Int) < (rd x89 x91) then (some true) else (if 0 ≤ (wrap64 ((x5.size : Int) - (rd x89 x91))) then (if (wrap64 ((x5.size : Int) - (rd x89 x91))) ≤ (x5.size : Int) then ((num_Read.f (x5.extract 0 ((wrap64 ((x5.size : Int) - (rd x89 x91))) : Int).toNat)).bind fun bt210 => (garretlaw01_NumBack.l3 k x0 x1 x5 (rd x89 x91) 0 x89 x90 x91 bt210.1 bt210.2)) else (none)) else (none))) else (none)) else (none)) else (some true)
def garretlaw01_NumBack.l3 : Nat → List Int → List ByteArray → ByteArray → Int → Int → List Int → Int → Int → ByteArray → Int → Option (Bool)
  | 0, _, _, _, _, _, _, _, _, _, _ => none
  | k + 1, x0, x1, x5, x13, x15, x89, x90, x91, x213000, x213001 => if x15 < (x0.length : Int) then (garretlaw01_NumBack.j6 k x0 x1 x5 x13 x15 x89 x90 x91 (decide (x15 < 30)) x213000 x213001) else (garretlaw01_NumBack.j6 k x0 x1 x5 x13 x15 x89 x90 x91 false x213000 x213001)
def garretlaw01_NumBack.j6 : Nat → List Int → List ByteArray → ByteArray → Int → Int → List Int → Int → Int → Bool → ByteArray → Int → Option (Bool)
  | 0, _, _, _, _, _, _, _, _, _, _, _ => none
  | k + 1, x0, x1, x5, x13, x15, x89, x90, x91, x115, x213000, x213001 => if x115 = true then ((num_Reader_Fixed.f x213000 x213001 5).bind fun bt213 => (if x13 = 0 then (if 0 ≤ x15 then (if x15 < (x0.length : Int) then ((garretbook_Among.f (rd x0 x15) 1099511627776).bind fun t217 => (garretlaw01_NumBack.j7 k x0 x1 x5 x13 x15 x89 x90 x91 (bt213.1 != t217) bt213.2.1 bt213.2.2)) else (none)) else (none)) else (garretlaw01_NumBack.j7 k x0 x1 x5 x13 x15 x89 x90 x91 false bt213.2.1 bt213.2.2))) else (garretlaw01_NumBack.l4 k x0 x1 x5 x13 0 x89 x90 x91 x213000 x213001)
def garretlaw01_NumBack.j7 : Nat → List Int → List ByteArray → ByteArray → Int → Int → List Int → Int → Int → Bool → ByteArray → Int → Option (Bool)
  | 0, _, _, _, _, _, _, _, _, _, _, _ => none
  | k + 1, x0, x1, x5, x13, x15, x89, x90, x91, x130, x213000, x213001 => if x130 = true then (some false) else (if 0 ≤ x15 then (if x15 < (x0.length : Int) then (if (rd x0 x15) ≥ 0 then ((num_Reader_Short.f k x213000 x213001 9223372036854775807).bind fun bt219 => (if x13 = 0 then (if bt219.1 = (rd x0 x15) then (garretlaw01_NumBack.l3 k x0 x1 x5 x13 (wrap64 (x15 + 1)) x89 x90 x91 bt219.2.1 bt219.2.2) else (some false)) else (garretlaw01_NumBack.l3 k x0 x1 x5 x13 (wrap64 (x15 + 1)) x89 x90 x91 bt219.2.1 bt219.2.2))) else (garretlaw01_NumBack.l3 k x0 x1 x5 x13 (wrap64 (x15 + 1)) x89 x90 x91 x213000 x213001)) else (none)) else (none))
def garretlaw01_NumBack.l4 : Nat → List Int → List ByteArray → ByteArray → Int → Int → List Int → Int → Int → ByteArray → Int → Option (Bool)
  | 0, _, _, _, _, _, _, _, _, _, _ => none
  | k + 1, x0, x1, x5, x13, x18, x89, x90, x91, x213000, x213001 => if x18 < (x1.length : Int) then (garretlaw01_NumBack.j9 k x0 x1 x5 x13 x18 x89 x90 x91 (decide (x18 < 30)) x213000 x213001) else (garretlaw01_NumBack.j9 k x0 x1 x5 x13 x18 x89 x90 x91 false x213000 x213001)
def garretlaw01_NumBack.j9 : Nat → List Int → List ByteArray → ByteArray → Int → Int → List Int → Int → Int → Bool → ByteArray → Int → Option (Bool)
  | 0, _, _, _, _, _, _, _, _, _, _, _ => none
  | k + 1, x0, x1, x5, x13, x18, x89, x90, x91, x155, x213000, x213001 => if x155 = true then (if 0 ≤ x18 then (if x18 < (x1.length : Int) then (if ((rdOf ByteArray.empty x1 x18).size : Int) ≤ 500 then ((num_Reader_Text.f k x213000 x213001 500).bind fun bt224 => (if x13 = 0 then (if bt224.1.toList = (rdOf ByteArray.empty x1 x18).toList then (garretlaw01_NumBack.l4 k x0 x1 x5 x13 (wrap64 (x18 + 1)) x89 x90 x91 bt224.2.1 bt224.2.2) else (some false)) else (garretlaw01_NumBack.l4 k x0 x1 x5 x13 (wrap64 (x18 + 1)) x89 x90 x91 bt224.2.1 bt224.2.2))) else (garretlaw01_NumBack.l4 k x0 x1 x5 x13 (wrap64 (x18 + 1)) x89 x90 x91 x213000 x213001)) else (none)) else (none)) else (if x13 = 0 then ((num_Reader_End.f x213000 x213001).bind fun bt228 => (if bt228.1 = 0 then (if x13 = 1 then ((num_Reader_Err.f bt228.2.1 bt228.2.2).bind fun bt231 => (if bt231.1 = 10 then (garretlaw01_NumBack.l2 k x0 x1 x5 x89 x90 (wrap64 (x91 + 1))) else (some false))) else (garretlaw01_NumBack.l2 k x0 x1 x5 x89 x90 (wrap64 (x91 + 1)))) else (some false))) else (if x13 = 1 then ((num_Reader_Err.f x213000 x213001).bind fun bt234 => (if bt234.1 = 10 then (garretlaw01_NumBack.l2 k x0 x1 x5 x89 x90 (wrap64 (x91 + 1))) else (some false))) else (garretlaw01_NumBack.l2 k x0 x1 x5 x89 x90 (wrap64 (x91 + 1)))))
end
def garretlaw01_NumBack.f (k : Nat) (l0 : List Int) (l1 : List ByteArray) : Option (Bool) := (garretlaw01_works.f k).bind fun t194 => (if t194 = true then (garretlaw01_NumBack.l0 k l0 l1 (⟨#[]⟩ : ByteArray) 0) else (some false))
theorem garretlaw01_NumBack.mono_l : ∀ k, (∀ y0 y1 y2 y3, LeO (garretlaw01_NumBack.l0 k y0 y1 y2 y3) (garretlaw01_NumBack.l0 (k + 1) y0 y1 y2 y3)) ∧ (∀ y0 y1 y2 y3 y4, LeO (garretlaw01_NumBack.j1 k y0 y1 y2 y3 y4) (garretlaw01_NumBack.j1 (k + 1) y0 y1 y2 y3 y4)) ∧ (∀ y0 y1 y2 y3, LeO (garretlaw01_NumBack.l1 k y0 y1 y2 y3) (garretlaw01_NumBack.l1 (k + 1) y0 y1 y2 y3)) ∧ (∀ y0 y1 y2 y3 y4, LeO (garretlaw01_NumBack.j3 k y0 y1 y2 y3 y4) (garretlaw01_NumBack.j3 (k + 1) y0 y1 y2 y3 y4)) ∧ (∀ y0 y1 y2 y3 y4 y5, LeO (garretlaw01_NumBack.l2 k y0 y1 y2 y3 y4 y5) (garretlaw01_NumBack.l2 (k + 1) y0 y1 y2 y3 y4 y5)) ∧ (∀ y0 y1 y2 y3 y4 y5 y6 y7 y8 y9, LeO (garretlaw01_NumBack.l3 k y0 y1 y2 y3 y4 y5 y6 y7 y8 y9) (garretlaw01_NumBack.l3 (k + 1) y0 y1 y2 y3 y4 y5 y6 y7 y8 y9)) ∧ (∀ y0 y1 y2 y3 y4 y5 y6 y7 y8 y9 y10, LeO (garretlaw01_NumBack.j6 k y0 y1 y2 y3 y4 y5 y6 y7 y8 y9 y10) (garretlaw01_NumBack.j6 (k + 1) y0 y1 y2 y3 y4 y5 y6 y7 y8 y9 y10)) ∧ (∀ y0 y1 y2 y3 y4 y5 y6 y7 y8 y9 y10, LeO (garretlaw01_NumBack.j7 k y0 y1 y2 y3 y4 y5 y6 y7 y8 y9 y10) (garretlaw01_NumBack.j7 (k + 1) y0 y1 y2 y3 y4 y5 y6 y7 y8 y9 y10)) ∧ (∀ y0 y1 y2 y3 y4 y5 y6 y7 y8 y9, LeO (garretlaw01_NumBack.l4 k y0 y1 y2 y3 y4 y5 y6 y7 y8 y9) (garretlaw01_NumBack.l4 (k + 1) y0 y1 y2 y3 y4 y5 y6 y7 y8 y9)) ∧ (∀ y0 y1 y2 y3 y4 y5 y6 y7 y8 y9 y10, LeO (garretlaw01_NumBack.j9 k y0 y1 y2 y3 y4 y5 y6 y7 y8 y9 y10) (garretlaw01_NumBack.j9 (k + 1) y0 y1 y2 y3 y4 y5 y6 y7 y8 y9 y10))
  | 0 => ⟨fun _ _ _ _ r h => by simp [garretlaw01_NumBack.l0] at h, fun _ _ _ _ _ r h => by simp [garretlaw01_NumBack.j1] at h, fun _ _ _ _ r h => by simp [garretlaw01_NumBack.l1] at h, fun _ _ _ _ _ r h => by simp [garretlaw01_NumBack.j3] at h, fun _ _ _ _ _ _ r h => by simp [garretlaw01_NumBack.l2] at h, fun _ _ _ _ _ _ _ _ _ _ r h => by simp [garretlaw01_NumBack.l3] at h, fun _ _ _ _ _ _ _ _ _ _ _ r h => by simp [garretlaw01_NumBack.j6] at h, fun _ _ _ _ _ _ _ _ _ _ _ r h => by simp [garretlaw01_NumBack.j7] at h, fun _ _ _ _ _ _ _ _ _ _ r h => by simp [garretlaw01_NumBack.l4] at h, fun _ _ _ _ _ _ _ _ _ _ _ r h => by simp [garretlaw01_NumBack.j9] at h⟩
  | k + 1 => by
    obtain ⟨ih0, ih1, ih2, ih3, ih4, ih5, ih6, ih7, ih8, ih9⟩ := garretlaw01_NumBack.mono_l k
    refine ⟨?_, ?_, ?_, ?_, ?_, ?_, ?_, ?_, ?_, ?_⟩
    · intro y0 y1 y2 y3
      unfold garretlaw01_NumBack.l0
      repeat' first
      | (with_reducible exact ih0 _ _ _ _)
      | (with_reducible exact ih1 _ _ _ _ _)
      | (with_reducible exact ih2 _ _ _ _)
      | (with_reducible exact ih3 _ _ _ _ _)
      | (with_reducible exact ih4 _ _ _ _ _ _)
      | (with_reducible exact ih5 _ _ _ _ _ _ _ _ _ _)
      | (with_reducible exact ih6 _ _ _ _ _ _ _ _ _ _ _)
      | (with_reducible exact ih7 _ _ _ _ _ _ _ _ _ _ _)
      | (with_reducible exact ih8 _ _ _ _ _ _ _ _ _ _)
      | (with_reducible exact ih9 _ _ _ _ _ _ _ _ _ _ _)
      | (with_reducible exact garretlaw01_works.mono _)
      | (with_reducible exact num_Fixed.mono _ _ _)
      | (with_reducible exact num_Reader_Short.mono _ _ _ _)
      | (with_reducible exact num_Reader_Text.mono _ _ _ _)
      | (with_reducible exact num_Short.mono _ _)
      | (with_reducible exact num_Text.mono _ _)
      | (with_reducible exact LeO.refl _)
      | (with_reducible exact LeO.none _)
      | (with_reducible refine LeO.ite ?_ ?_)
      | (with_reducible refine LeO.bind ?_ (fun _ => ?_))
      | exact ih0 _ _ _ _
      | exact ih1 _ _ _ _ _
      | exact ih2 _ _ _ _
      | exact ih3 _ _ _ _ _
      | exact ih4 _ _ _ _ _ _
      | exact ih5 _ _ _ _ _ _ _ _ _ _
      | exact ih6 _ _ _ _ _ _ _ _ _ _ _
      | exact ih7 _ _ _ _ _ _ _ _ _ _ _
      | exact ih8 _ _ _ _ _ _ _ _ _ _
      | exact ih9 _ _ _ _ _ _ _ _ _ _ _
      | exact garretlaw01_works.mono _
      | exact num_Fixed.mono _ _ _
      | exact num_Reader_Short.mono _ _ _ _
      | exact num_Reader_Text.mono _ _ _ _
      | exact num_Short.mono _ _
      | exact num_Text.mono _ _
      | exact LeO.none _
      | refine LeO.ite ?_ ?_
      | refine LeO.bind ?_ (fun _ => ?_)
    · intro y0 y1 y2 y3 y4
      unfold garretlaw01_NumBack.j1
      repeat' first
      | (with_reducible exact ih0 _ _ _ _)
      | (with_reducible exact ih1 _ _ _ _ _)
      | (with_reducible exact ih2 _ _ _ _)
      | (with_reducible exact ih3 _ _ _ _ _)
      | (with_reducible exact ih4 _ _ _ _ _ _)
      | (with_reducible exact ih5 _ _ _ _ _ _ _ _ _ _)
      | (with_reducible exact ih6 _ _ _ _ _ _ _ _ _ _ _)
      | (with_reducible exact ih7 _ _ _ _ _ _ _ _ _ _ _)
      | (with_reducible exact ih8 _ _ _ _ _ _ _ _ _ _)
      | (with_reducible exact ih9 _ _ _ _ _ _ _ _ _ _ _)
      | (with_reducible exact garretlaw01_works.mono _)
      | (with_reducible exact num_Fixed.mono _ _ _)
      | (with_reducible exact num_Reader_Short.mono _ _ _ _)
      | (with_reducible exact num_Reader_Text.mono _ _ _ _)
      | (with_reducible exact num_Short.mono _ _)
      | (with_reducible exact num_Text.mono _ _)
      | (with_reducible exact LeO.refl _)
      | (with_reducible exact LeO.none _)
      | (with_reducible refine LeO.ite ?_ ?_)
      | (with_reducible refine LeO.bind ?_ (fun _ => ?_))
      | exact ih0 _ _ _ _
      | exact ih1 _ _ _ _ _
      | exact ih2 _ _ _ _
      | exact ih3 _ _ _ _ _
      | exact ih4 _ _ _ _ _ _
      | exact ih5 _ _ _ _ _ _ _ _ _ _
      | exact ih6 _ _ _ _ _ _ _ _ _ _ _
      | exact ih7 _ _ _ _ _ _ _ _ _ _ _
      | exact ih8 _ _ _ _ _ _ _ _ _ _
      | exact ih9 _ _ _ _ _ _ _ _ _ _ _
      | exact garretlaw01_works.mono _
      | exact num_Fixed.mono _ _ _
      | exact num_Reader_Short.mono _ _ _ _
      | exact num_Reader_Text.mono _ _ _ _
      | exact num_Short.mono _ _
      | exact num_Text.mono _ _
      | exact LeO.none _
      | refine LeO.ite ?_ ?_
      | refine LeO.bind ?_ (fun _ => ?_)
    · intro y0 y1 y2 y3
      unfold garretlaw01_NumBack.l1
      repeat' first
      | (with_reducible exact ih0 _ _ _ _)
      | (with_reducible exact ih1 _ _ _ _ _)
      | (with_reducible exact ih2 _ _ _ _)
      | (with_reducible exact ih3 _ _ _ _ _)
      | (with_reducible exact ih4 _ _ _ _ _ _)
      | (with_reducible exact ih5 _ _ _ _ _ _ _ _ _ _)
      | (with_reducible exact ih6 _ _ _ _ _ _ _ _ _ _ _)
      | (with_reducible exact ih7 _ _ _ _ _ _ _ _ _ _ _)
      | (with_reducible exact ih8 _ _ _ _ _ _ _ _ _ _)
      | (with_reducible exact ih9 _ _ _ _ _ _ _ _ _ _ _)
      | (with_reducible exact garretlaw01_works.mono _)
      | (with_reducible exact num_Fixed.mono _ _ _)
      | (with_reducible exact num_Reader_Short.mono _ _ _ _)
      | (with_reducible exact num_Reader_Text.mono _ _ _ _)
      | (with_reducible exact num_Short.mono _ _)
      | (with_reducible exact num_Text.mono _ _)
      | (with_reducible exact LeO.refl _)
      | (with_reducible exact LeO.none _)
      | (with_reducible refine LeO.ite ?_ ?_)
      | (with_reducible refine LeO.bind ?_ (fun _ => ?_))
      | exact ih0 _ _ _ _
      | exact ih1 _ _ _ _ _
      | exact ih2 _ _ _ _
      | exact ih3 _ _ _ _ _
      | exact ih4 _ _ _ _ _ _
      | exact ih5 _ _ _ _ _ _ _ _ _ _
      | exact ih6 _ _ _ _ _ _ _ _ _ _ _
      | exact ih7 _ _ _ _ _ _ _ _ _ _ _
      | exact ih8 _ _ _ _ _ _ _ _ _ _
      | exact ih9 _ _ _ _ _ _ _ _ _ _ _
      | exact garretlaw01_works.mono _
      | exact num_Fixed.mono _ _ _
      | exact num_Reader_Short.mono _ _ _ _
      | exact num_Reader_Text.mono _ _ _ _
      | exact num_Short.mono _ _
      | exact num_Text.mono _ _
      | exact LeO.none _
      | refine LeO.ite ?_ ?_
      | refine LeO.bind ?_ (fun _ => ?_)
    · intro y0 y1 y2 y3 y4
      unfold garretlaw01_NumBack.j3
      repeat' first
      | (with_reducible exact ih0 _ _ _ _)
      | (with_reducible exact ih1 _ _ _ _ _)
      | (with_reducible exact ih2 _ _ _ _)
      | (with_reducible exact ih3 _ _ _ _ _)
      | (with_reducible exact ih4 _ _ _ _ _ _)
      | (with_reducible exact ih5 _ _ _ _ _ _ _ _ _ _)
      | (with_reducible exact ih6 _ _ _ _ _ _ _ _ _ _ _)
      | (with_reducible exact ih7 _ _ _ _ _ _ _ _ _ _ _)
      | (with_reducible exact ih8 _ _ _ _ _ _ _ _ _ _)
      | (with_reducible exact ih9 _ _ _ _ _ _ _ _ _ _ _)
      | (with_reducible exact garretlaw01_works.mono _)
      | (with_reducible exact num_Fixed.mono _ _ _)
      | (with_reducible exact num_Reader_Short.mono _ _ _ _)
      | (with_reducible exact num_Reader_Text.mono _ _ _ _)
      | (with_reducible exact num_Short.mono _ _)
      | (with_reducible exact num_Text.mono _ _)
      | (with_reducible exact LeO.refl _)
      | (with_reducible exact LeO.none _)
      | (with_reducible refine LeO.ite ?_ ?_)
      | (with_reducible refine LeO.bind ?_ (fun _ => ?_))
      | exact ih0 _ _ _ _
      | exact ih1 _ _ _ _ _
      | exact ih2 _ _ _ _
      | exact ih3 _ _ _ _ _
      | exact ih4 _ _ _ _ _ _
      | exact ih5 _ _ _ _ _ _ _ _ _ _
      | exact ih6 _ _ _ _ _ _ _ _ _ _ _
      | exact ih7 _ _ _ _ _ _ _ _ _ _ _
      | exact ih8 _ _ _ _ _ _ _ _ _ _
      | exact ih9 _ _ _ _ _ _ _ _ _ _ _
      | exact garretlaw01_works.mono _
      | exact num_Fixed.mono _ _ _
      | exact num_Reader_Short.mono _ _ _ _
      | exact num_Reader_Text.mono _ _ _ _
      | exact num_Short.mono _ _
      | exact num_Text.mono _ _
      | exact LeO.none _
      | refine LeO.ite ?_ ?_
      | refine LeO.bind ?_ (fun _ => ?_)
    · intro y0 y1 y2 y3 y4 y5
      unfold garretlaw01_NumBack.l2
      repeat' first
      | (with_reducible exact ih0 _ _ _ _)
      | (with_reducible exact ih1 _ _ _ _ _)
      | (with_reducible exact ih2 _ _ _ _)
      | (with_reducible exact ih3 _ _ _ _ _)
      | (with_reducible exact ih4 _ _ _ _ _ _)
      | (with_reducible exact ih5 _ _ _ _ _ _ _ _ _ _)
      | (with_reducible exact ih6 _ _ _ _ _ _ _ _ _ _ _)
      | (with_reducible exact ih7 _ _ _ _ _ _ _ _ _ _ _)
      | (with_reducible exact ih8 _ _ _ _ _ _ _ _ _ _)
      | (with_reducible exact ih9 _ _ _ _ _ _ _ _ _ _ _)
      | (with_reducible exact garretlaw01_works.mono _)
      | (with_reducible exact num_Fixed.mono _ _ _)
      | (with_reducible exact num_Reader_Short.mono _ _ _ _)
      | (with_reducible exact num_Reader_Text.mono _ _ _ _)
      | (with_reducible exact num_Short.mono _ _)
      | (with_reducible exact num_Text.mono _ _)
      | (with_reducible exact LeO.refl _)
      | (with_reducible exact LeO.none _)
      | (with_reducible refine LeO.ite ?_ ?_)
      | (with_reducible refine LeO.bind ?_ (fun _ => ?_))
      | exact ih0 _ _ _ _
      | exact ih1 _ _ _ _ _
      | exact ih2 _ _ _ _
      | exact ih3 _ _ _ _ _
      | exact ih4 _ _ _ _ _ _
      | exact ih5 _ _ _ _ _ _ _ _ _ _
      | exact ih6 _ _ _ _ _ _ _ _ _ _ _
      | exact ih7 _ _ _ _ _ _ _ _ _ _ _
      | exact ih8 _ _ _ _ _ _ _ _ _ _
      | exact ih9 _ _ _ _ _ _ _ _ _ _ _
      | exact garretlaw01_works.mono _
      | exact num_Fixed.mono _ _ _
      | exact num_Reader_Short.mono _ _ _ _
      | exact num_Reader_Text.mono _ _ _ _
      | exact num_Short.mono _ _
      | exact num_Text.mono _ _
      | exact LeO.none _
      | refine LeO.ite ?_ ?_
      | refine LeO.bind ?_ (fun _ => ?_)
    · intro y0 y1 y2 y3 y4 y5 y6 y7 y8 y9
      unfold garretlaw01_NumBack.l3
      repeat' first
      | (with_reducible exact ih0 _ _ _ _)
      | (with_reducible exact ih1 _ _ _ _ _)
      | (with_reducible exact ih2 _ _ _ _)
      | (with_reducible exact ih3 _ _ _ _ _)
      | (with_reducible exact ih4 _ _ _ _ _ _)
      | (with_reducible exact ih5 _ _ _ _ _ _ _ _ _ _)
      | (with_reducible exact ih6 _ _ _ _ _ _ _ _ _ _ _)
      | (with_reducible exact ih7 _ _ _ _ _ _ _ _ _ _ _)
      | (with_reducible exact ih8 _ _ _ _ _ _ _ _ _ _)
      | (with_reducible exact ih9 _ _ _ _ _ _ _ _ _ _ _)
      | (with_reducible exact garretlaw01_works.mono _)
      | (with_reducible exact num_Fixed.mono _ _ _)
      | (with_reducible exact num_Reader_Short.mono _ _ _ _)
      | (with_reducible exact num_Reader_Text.mono _ _ _ _)
      | (with_reducible exact num_Short.mono _ _)
      | (with_reducible exact num_Text.mono _ _)
      | (with_reducible exact LeO.refl _)
      | (with_reducible exact LeO.none _)
      | (with_reducible refine LeO.ite ?_ ?_)
      | (with_reducible refine LeO.bind ?_ (fun _ => ?_))
      | exact ih0 _ _ _ _
      | exact ih1 _ _ _ _ _
      | exact ih2 _ _ _ _
      | exact ih3 _ _ _ _ _
      | exact ih4 _ _ _ _ _ _
      | exact ih5 _ _ _ _ _ _ _ _ _ _
      | exact ih6 _ _ _ _ _ _ _ _ _ _ _
      | exact ih7 _ _ _ _ _ _ _ _ _ _ _
      | exact ih8 _ _ _ _ _ _ _ _ _ _
      | exact ih9 _ _ _ _ _ _ _ _ _ _ _
      | exact garretlaw01_works.mono _
      | exact num_Fixed.mono _ _ _
      | exact num_Reader_Short.mono _ _ _ _
      | exact num_Reader_Text.mono _ _ _ _
      | exact num_Short.mono _ _
      | exact num_Text.mono _ _
      | exact LeO.none _
      | refine LeO.ite ?_ ?_
      | refine LeO.bind ?_ (fun _ => ?_)
    · intro y0 y1 y2 y3 y4 y5 y6 y7 y8 y9 y10
      unfold garretlaw01_NumBack.j6
      repeat' first
      | (with_reducible exact ih0 _ _ _ _)
      | (with_reducible exact ih1 _ _ _ _ _)
      | (with_reducible exact ih2 _ _ _ _)
      | (with_reducible exact ih3 _ _ _ _ _)
      | (with_reducible exact ih4 _ _ _ _ _ _)
      | (with_reducible exact ih5 _ _ _ _ _ _ _ _ _ _)
      | (with_reducible exact ih6 _ _ _ _ _ _ _ _ _ _ _)
      | (with_reducible exact ih7 _ _ _ _ _ _ _ _ _ _ _)
      | (with_reducible exact ih8 _ _ _ _ _ _ _ _ _ _)
      | (with_reducible exact ih9 _ _ _ _ _ _ _ _ _ _ _)
      | (with_reducible exact garretlaw01_works.mono _)
      | (with_reducible exact num_Fixed.mono _ _ _)
      | (with_reducible exact num_Reader_Short.mono _ _ _ _)
      | (with_reducible exact num_Reader_Text.mono _ _ _ _)
      | (with_reducible exact num_Short.mono _ _)
      | (with_reducible exact num_Text.mono _ _)
      | (with_reducible exact LeO.refl _)
      | (with_reducible exact LeO.none _)
      | (with_reducible refine LeO.ite ?_ ?_)
      | (with_reducible refine LeO.bind ?_ (fun _ => ?_))
      | exact ih0 _ _ _ _
      | exact ih1 _ _ _ _ _
      | exact ih2 _ _ _ _
      | exact ih3 _ _ _ _ _
      | exact ih4 _ _ _ _ _ _
      | exact ih5 _ _ _ _ _ _ _ _ _ _
      | exact ih6 _ _ _ _ _ _ _ _ _ _ _
      | exact ih7 _ _ _ _ _ _ _ _ _ _ _
      | exact ih8 _ _ _ _ _ _ _ _ _ _
      | exact ih9 _ _ _ _ _ _ _ _ _ _ _
      | exact garretlaw01_works.mono _
      | exact num_Fixed.mono _ _ _
      | exact num_Reader_Short.mono _ _ _ _
      | exact num_Reader_Text.mono _ _ _ _
      | exact num_Short.mono _ _
      | exact num_Text.mono _ _
      | exact LeO.none _
      | refine LeO.ite ?_ ?_
      | refine LeO.bind ?_ (fun _ => ?_)
    · intro y0 y1 y2 y3 y4 y5 y6 y7 y8 y9 y10
      unfold garretlaw01_NumBack.j7
      repeat' first
      | (with_reducible exact ih0 _ _ _ _)
      | (with_reducible exact ih1 _ _ _ _ _)
      | (with_reducible exact ih2 _ _ _ _)
      | (with_reducible exact ih3 _ _ _ _ _)
      | (with_reducible exact ih4 _ _ _ _ _ _)
      | (with_reducible exact ih5 _ _ _ _ _ _ _ _ _ _)
      | (with_reducible exact ih6 _ _ _ _ _ _ _ _ _ _ _)
      | (with_reducible exact ih7 _ _ _ _ _ _ _ _ _ _ _)
      | (with_reducible exact ih8 _ _ _ _ _ _ _ _ _ _)
      | (with_reducible exact ih9 _ _ _ _ _ _ _ _ _ _ _)
      | (with_reducible exact garretlaw01_works.mono _)
      | (with_reducible exact num_Fixed.mono _ _ _)
      | (with_reducible exact num_Reader_Short.mono _ _ _ _)
      | (with_reducible exact num_Reader_Text.mono _ _ _ _)
      | (with_reducible exact num_Short.mono _ _)
      | (with_reducible exact num_Text.mono _ _)
      | (with_reducible exact LeO.refl _)
      | (with_reducible exact LeO.none _)
      | (with_reducible refine LeO.ite ?_ ?_)
      | (with_reducible refine LeO.bind ?_ (fun _ => ?_))
      | exact ih0 _ _ _ _
      | exact ih1 _ _ _ _ _
      | exact ih2 _ _ _ _
      | exact ih3 _ _ _ _ _
      | exact ih4 _ _ _ _ _ _
      | exact ih5 _ _ _ _ _ _ _ _ _ _
      | exact ih6 _ _ _ _ _ _ _ _ _ _ _
      | exact ih7 _ _ _ _ _ _ _ _ _ _ _
      | exact ih8 _ _ _ _ _ _ _ _ _ _
      | exact ih9 _ _ _ _ _ _ _ _ _ _ _
      | exact garretlaw01_works.mono _
      | exact num_Fixed.mono _ _ _
      | exact num_Reader_Short.mono _ _ _ _
      | exact num_Reader_Text.mono _ _ _ _
      | exact num_Short.mono _ _
      | exact num_Text.mono _ _
      | exact LeO.none _
      | refine LeO.ite ?_ ?_
      | refine LeO.bind ?_ (fun _ => ?_)
    · intro y0 y1 y2 y3 y4 y5 y6 y7 y8 y9
      unfold garretlaw01_NumBack.l4
      repeat' first
      | (with_reducible exact ih0 _ _ _ _)
      | (with_reducible exact ih1 _ _ _ _ _)
      | (with_reducible exact ih2 _ _ _ _)
      | (with_reducible exact ih3 _ _ _ _ _)
      | (with_reducible exact ih4 _ _ _ _ _ _)
      | (with_reducible exact ih5 _ _ _ _ _ _ _ _ _ _)
      | (with_reducible exact ih6 _ _ _ _ _ _ _ _ _ _ _)
      | (with_reducible exact ih7 _ _ _ _ _ _ _ _ _ _ _)
      | (with_reducible exact ih8 _ _ _ _ _ _ _ _ _ _)
      | (with_reducible exact ih9 _ _ _ _ _ _ _ _ _ _ _)
      | (with_reducible exact garretlaw01_works.mono _)
      | (with_reducible exact num_Fixed.mono _ _ _)
      | (with_reducible exact num_Reader_Short.mono _ _ _ _)
      | (with_reducible exact num_Reader_Text.mono _ _ _ _)
      | (with_reducible exact num_Short.mono _ _)
      | (with_reducible exact num_Text.mono _ _)
      | (with_reducible exact LeO.refl _)
      | (with_reducible exact LeO.none _)
      | (with_reducible refine LeO.ite ?_ ?_)
      | (with_reducible refine LeO.bind ?_ (fun _ => ?_))
      | exact ih0 _ _ _ _
      | exact ih1 _ _ _ _ _
      | exact ih2 _ _ _ _
      | exact ih3 _ _ _ _ _
      | exact ih4 _ _ _ _ _ _
      | exact ih5 _ _ _ _ _ _ _ _ _ _
      | exact ih6 _ _ _ _ _ _ _ _ _ _ _
      | exact ih7 _ _ _ _ _ _ _ _ _ _ _
      | exact ih8 _ _ _ _ _ _ _ _ _ _
      | exact ih9 _ _ _ _ _ _ _ _ _ _ _
      | exact garretlaw01_works.mono _
      | exact num_Fixed.mono _ _ _
      | exact num_Reader_Short.mono _ _ _ _
      | exact num_Reader_Text.mono _ _ _ _
      | exact num_Short.mono _ _
      | exact num_Text.mono _ _
      | exact LeO.none _
      | refine LeO.ite ?_ ?_
      | refine LeO.bind ?_ (fun _ => ?_)
    · intro y0 y1 y2 y3 y4 y5 y6 y7 y8 y9 y10
      unfold garretlaw01_NumBack.j9
      repeat' first
      | (with_reducible exact ih0 _ _ _ _)
      | (with_reducible exact ih1 _ _ _ _ _)
      | (with_reducible exact ih2 _ _ _ _)
      | (with_reducible exact ih3 _ _ _ _ _)
      | (with_reducible exact ih4 _ _ _ _ _ _)
      | (with_reducible exact ih5 _ _ _ _ _ _ _ _ _ _)
      | (with_reducible exact ih6 _ _ _ _ _ _ _ _ _ _ _)
      | (with_reducible exact ih7 _ _ _ _ _ _ _ _ _ _ _)
      | (with_reducible exact ih8 _ _ _ _ _ _ _ _ _ _)
      | (with_reducible exact ih9 _ _ _ _ _ _ _ _ _ _ _)
      | (with_reducible exact garretlaw01_works.mono _)
      | (with_reducible exact num_Fixed.mono _ _ _)
      | (with_reducible exact num_Reader_Short.mono _ _ _ _)
      | (with_reducible exact num_Reader_Text.mono _ _ _ _)
      | (with_reducible exact num_Short.mono _ _)
      | (with_reducible exact num_Text.mono _ _)
      | (with_reducible exact LeO.refl _)
      | (with_reducible exact LeO.none _)
      | (with_reducible refine LeO.ite ?_ ?_)
      | (with_reducible refine LeO.bind ?_ (fun _ => ?_))
      | exact ih0 _ _ _ _
      | exact ih1 _ _ _ _ _
      | exact ih2 _ _ _ _
      | exact ih3 _ _ _ _ _
      | exact ih4 _ _ _ _ _ _
      | exact ih5 _ _ _ _ _ _ _ _ _ _
      | exact ih6 _ _ _ _ _ _ _ _ _ _ _
      | exact ih7 _ _ _ _ _ _ _ _ _ _ _
      | exact ih8 _ _ _ _ _ _ _ _ _ _
      | exact ih9 _ _ _ _ _ _ _ _ _ _ _
      | exact garretlaw01_works.mono _
      | exact num_Fixed.mono _ _ _
      | exact num_Reader_Short.mono _ _ _ _
      | exact num_Reader_Text.mono _ _ _ _
      | exact num_Short.mono _ _
      | exact num_Text.mono _ _
      | exact LeO.none _
      | refine LeO.ite ?_ ?_
      | refine LeO.bind ?_ (fun _ => ?_)
theorem garretlaw01_NumBack.mono : ∀ a0 a1 k, LeO (garretlaw01_NumBack.f k a0 a1) (garretlaw01_NumBack.f (k + 1) a0 a1) := by
  intro a0 a1 k
  obtain ⟨ih0, ih1, ih2, ih3, ih4, ih5, ih6, ih7, ih8, ih9⟩ := garretlaw01_NumBack.mono_l k
  unfold garretlaw01_NumBack.f
  repeat' first
      | (with_reducible exact ih0 _ _ _ _)
      | (with_reducible exact ih1 _ _ _ _ _)
      | (with_reducible exact ih2 _ _ _ _)
      | (with_reducible exact ih3 _ _ _ _ _)
      | (with_reducible exact ih4 _ _ _ _ _ _)
      | (with_reducible exact ih5 _ _ _ _ _ _ _ _ _ _)
      | (with_reducible exact ih6 _ _ _ _ _ _ _ _ _ _ _)
      | (with_reducible exact ih7 _ _ _ _ _ _ _ _ _ _ _)
      | (with_reducible exact ih8 _ _ _ _ _ _ _ _ _ _)
      | (with_reducible exact ih9 _ _ _ _ _ _ _ _ _ _ _)
      | (with_reducible exact garretlaw01_works.mono _)
      | (with_reducible exact num_Fixed.mono _ _ _)
      | (with_reducible exact num_Reader_Short.mono _ _ _ _)
      | (with_reducible exact num_Reader_Text.mono _ _ _ _)
      | (with_reducible exact num_Short.mono _ _)
      | (with_reducible exact num_Text.mono _ _)
      | (with_reducible exact LeO.refl _)
      | (with_reducible exact LeO.none _)
      | (with_reducible refine LeO.ite ?_ ?_)
      | (with_reducible refine LeO.bind ?_ (fun _ => ?_))
      | exact ih0 _ _ _ _
      | exact ih1 _ _ _ _ _
      | exact ih2 _ _ _ _
      | exact ih3 _ _ _ _ _
      | exact ih4 _ _ _ _ _ _
      | exact ih5 _ _ _ _ _ _ _ _ _ _
      | exact ih6 _ _ _ _ _ _ _ _ _ _ _
      | exact ih7 _ _ _ _ _ _ _ _ _ _ _
      | exact ih8 _ _ _ _ _ _ _ _ _ _
      | exact ih9 _ _ _ _ _ _ _ _ _ _ _
      | exact garretlaw01_works.mono _
      | exact num_Fixed.mono _ _ _
      | exact num_Reader_Short.mono _ _ _ _
      | exact num_Reader_Text.mono _ _ _ _
      | exact num_Short.mono _ _
      | exact num_Text.mono _ _
      | exact LeO.none _
      | refine LeO.ite ?_ ?_
      | refine LeO.bind ?_ (fun _ => ?_)
set_option maxHeartbeats 8000000 in
set_option maxRecDepth 100000 in
theorem garretlaw01_NumBack.calls (k : Nat) (A0 : Option Addr) (c0 : Nat) (l0 : List Int) (A1 : Option Addr) (c1 : Nat) (l1 : List ByteArray) (r : Bool) (w : World) (hr0 : Kd.C (Kd.int .i64) w A0 l0.length l0) (hc0 : l0.length ≤ c0) (hr1 : Kd.C Kd.string w A1 l1.length l1) (hc1 : l1.length ≤ c1) (h : garretlaw01_NumBack.f k l0 l1 = some r) :
    Calls Try.prog 7 #[.slice A0 l0.length c0, .slice A1 l1.length c1] w fun e w' => e = .returned (.bool r) ∧ Below w.heap.size w w' := by
  have HR0 := Aside0.mk hr0
  have HC0 := Aside0.mk hc0
  clear hr0 hc0
  have HR1 := Aside0.mk hr1
  have HC1 := Aside0.mk hc1
  clear hr1 hc1
  have HB := Aside0.mk (Below.refl w.heap.size w)
  have H : ((garretlaw01_works.f k).bind fun t194 => (if t194 = true then (garretlaw01_NumBack.l0 k l0 l1 (⟨#[]⟩ : ByteArray) 0) else (some false))) = some r := h
  clear h
  replace H := Option.bind_eq_some_iff.mp H
  obtain ⟨t194, A30, H⟩ := H
  replace H : (if t194 = true then (garretlaw01_NumBack.l0 k l0 l1 (⟨#[]⟩ : ByteArray) 0) else (some false)) = some r := H
  have A3 := Aside0.mk A30
  clear A30
  by_cases c4 : t194 = true
  · subst c4
    have H1 : (garretlaw01_NumBack.l0 k l0 l1 (⟨#[]⟩ : ByteArray) 0) = some r := by rw [if_pos rfl] at H; exact H
    clear H
    have H := H1
    clear H1
    have H' := Aside0.mk H
    clear H
    go_enter Try.func7, Try.ntmps7
    go_wp2_with (first | ((with_reducible refine gate_callee (f := 14) rfl ?_); refine goesL_ (some 20) rfl rfl Try.func14 (by kernel_rfl) rfl #[] rfl (by (try simp only [List.map_toArray, List.map_cons, List.map_nil]); first | done | rfl | (simp only [List.length_drop, List.length_take]; rfl)) ?_; (with_reducible refine (garretlaw01_works.calls k  true _ A3.out).mono ?_); rintro e w5 ⟨rfl, hb⟩; refine ⟨_, rfl, ?_⟩; have n0_ := Aside0.mk (below_step (by repeat (first | (with_reducible first | exact HB.out | apply below_alloc | apply pw_below_drewN | apply below_drew1) | exact HB.out)) hb); clear HB; have HB := n0_; clear n0_; (try clear hb); (try clear hb2); (try clear hk); (try clear hi)))
    go_loopg [5, 6] k (fun kq v5 v6 w' => ∃ (x5_1 : ByteArray) (x6_1 : Int), v5 = .string x5_1 ∧ v6 = .int .i64 x6_1 ∧ Aside0 (garretlaw01_NumBack.l0 kq l0 l1 x5_1 x6_1 = some r) ∧ Aside0 (kq ≤ k) ∧ Aside0 (Below w.heap.size w w'))
    case atStart => exact ⟨((⟨#[]⟩ : ByteArray)), (0), (by first | rfl | (simp; done) | (simp [*]; done)), (by first | rfl | (simp; done) | (simp [*]; done)), H', ⟨Nat.le_refl _⟩, ⟨by repeat (first | (with_reducible first | exact HB.out | apply below_alloc | apply pw_below_drewN | apply below_drew1) | exact HB.out)⟩⟩
    case round =>
      clear H'
      try clear c1
      try clear p2
      try clear c4
      obtain ⟨x5_1, x6_1, rfl, rfl, HA, HK1, HB⟩ := hrel
      cases gk with
      | zero => exact absurd HA.out (by simp [garretlaw01_NumBack.l0])
      | succ k1 =>
        have H := HA.out
        clear HA
        simp only [garretlaw01_NumBack.l0] at H
        have HC6 := Aside0.mk H
        clear H
        go_upto_region 5 with (fail)
        go_cut [29] (fun v29 wc => ∃ (kq : Nat) (x29_5 : Bool), v29 = .bool x29_5 ∧ Aside0 (garretlaw01_NumBack.j1 kq l0 l1 x5_1 x6_1 x29_5 = some r) ∧ Aside0 (kq ≤ k1) ∧ Aside0 (Below w.heap.size w wc))
        case first =>
          have H := HC6.out
          clear HC6
          by_cases c7 : x6_1 < (l0.length : Int)
          · rw [if_pos c7] at H
            have c7b0 : decide (x6_1 < (l0.length : Int)) = true := decide_eq_true c7
            clear c7
            (first | rw [c7b0] | (simp only [i64_w, i32_w]; rw [c7b0]) | skip)
            have H' := Aside0.mk H
            clear H
            go_wp2
            go_meet
            case rel => exact ⟨_, (decide (x6_1 < 30)), (by first | rfl | (simp; done) | (simp [*]; done)), H', ⟨by have := HK1.out; first | omega | exact Nat.le_refl _⟩, ⟨by repeat (first | (with_reducible first | exact HB.out | apply below_alloc | apply pw_below_drewN | apply below_drew1) | exact HB.out)⟩⟩
          · rw [if_neg c7] at H
            have c7b0 : decide (x6_1 < (l0.length : Int)) = false := decide_eq_false c7
            clear c7
            (first | rw [c7b0] | (simp only [i64_w, i32_w]; rw [c7b0]) | skip)
            have H' := Aside0.mk H
            clear H
            go_wp2
            go_meet
            case rel => exact ⟨_, (false), (by first | rfl | (simp; done) | (simp [*]; done)), H', ⟨by have := HK1.out; first | omega | exact Nat.le_refl _⟩, ⟨by repeat (first | (with_reducible first | exact HB.out | apply below_alloc | apply pw_below_drewN | apply below_drew1) | exact HB.out)⟩⟩
        case rest =>
          clear HC6
          try clear c1
          try clear p2
          try clear c4
          try clear c7
          try clear c7b0
          try clear p2
          obtain ⟨kq, x29_5, rfl, HA, HJ5, HB⟩ := hcut
          cases kq with
          | zero => exact absurd HA.out (by simp [garretlaw01_NumBack.j1])
          | succ kj5 =>
            have H := HA.out
            clear HA
            simp only [garretlaw01_NumBack.j1] at H
            by_cases c8 : x29_5 = true
            · subst c8
              have H1 : (if 0 ≤ x6_1 then (if x6_1 < (l0.length : Int) then ((garretbook_Among.f (rd l0 x6_1) 1099511627776).bind fun t196 => ((num_Fixed.f kj5 t196 5).bind fun bt197 => ((num_Short.f kj5 (rd l0 x6_1)).bind fun bt200 => (if bt197.2 = 0 then (if ((bt200.2 == 0) != (decide ((rd l0 x6_1) ≥ 0))) = true then (some false) else (if bt197.1.size + bt200.1.size ≤ 9223372036854775807 then (if x5_1.size + (bt197.1 ++ bt200.1).size ≤ 9223372036854775807 then (garretlaw01_NumBack.l0 kj5 l0 l1 (x5_1 ++ (bt197.1 ++ bt200.1)) (wrap64 (x6_1 + 1))) else (none)) else (none))) else (some false))))) else (none)) else (none)) = some r := by rw [if_pos rfl] at H; exact H
              clear H
              have H := H1
              clear H1
              by_cases c9 : 0 ≤ x6_1
              · rw [if_pos c9] at H
                have c9b0 : decide (0 ≤ x6_1) = true := decide_eq_true c9
                clear c9
                by_cases c10 : x6_1 < (l0.length : Int)
                · rw [if_pos c10] at H
                  have c10b0 : decide (x6_1 < (l0.length : Int)) = true := decide_eq_true c10
                  clear c10
                  replace H := Option.bind_eq_some_iff.mp H
                  obtain ⟨t196, A110, H⟩ := H
                  replace H : ((num_Fixed.f kj5 t196 5).bind fun bt197 => ((num_Short.f kj5 (rd l0 x6_1)).bind fun bt200 => (if bt197.2 = 0 then (if ((bt200.2 == 0) != (decide ((rd l0 x6_1) ≥ 0))) = true then (some false) else (if bt197.1.size + bt200.1.size ≤ 9223372036854775807 then (if x5_1.size + (bt197.1 ++ bt200.1).size ≤ 9223372036854775807 then (garretlaw01_NumBack.l0 kj5 l0 l1 (x5_1 ++ (bt197.1 ++ bt200.1)) (wrap64 (x6_1 + 1))) else (none)) else (none))) else (some false)))) = some r := H
                  have A11 := Aside0.mk A110
                  clear A110
                  replace H := Option.bind_eq_some_iff.mp H
                  obtain ⟨⟨t197, t198⟩, A120, H⟩ := H
                  replace H : ((num_Short.f kj5 (rd l0 x6_1)).bind fun bt200 => (if t198 = 0 then (if ((bt200.2 == 0) != (decide ((rd l0 x6_1) ≥ 0))) = true then (some false) else (if t197.size + bt200.1.size ≤ 9223372036854775807 then (if x5_1.size + (t197 ++ bt200.1).size ≤ 9223372036854775807 then (garretlaw01_NumBack.l0 kj5 l0 l1 (x5_1 ++ (t197 ++ bt200.1)) (wrap64 (x6_1 + 1))) else (none)) else (none))) else (some false))) = some r := H
                  have A12 := Aside0.mk A120
                  clear A120
                  replace H := Option.bind_eq_some_iff.mp H
                  obtain ⟨⟨t200, t201⟩, A130, H⟩ := H
                  replace H : (if t198 = 0 then (if ((t201 == 0) != (decide ((rd l0 x6_1) ≥ 0))) = true then (some false) else (if t197.size + t200.size ≤ 9223372036854775807 then (if x5_1.size + (t197 ++ t200).size ≤ 9223372036854775807 then (garretlaw01_NumBack.l0 kj5 l0 l1 (x5_1 ++ (t197 ++ t200)) (wrap64 (x6_1 + 1))) else (none)) else (none))) else (some false)) = some r := H
                  have A13 := Aside0.mk A130
                  clear A130
                  by_cases c14 : t198 = 0
                  · rw [if_pos c14] at H
                    have c14b0 : (t198 == 0) = true := beq_iff_eq.mpr c14
                    have c14b1 : (t198 != 0) = false := bne_eq_false_iff_eq.mpr c14
                    clear c14
                    by_cases c15 : ((t201 == 0) != (decide ((rd l0 x6_1) ≥ 0))) = true
                    · rw [if_pos c15] at H
                      have c15b0 : ((t201 == 0) != (decide ((rd l0 x6_1) ≥ 0))) = true := c15
                      (try (have c15b1 : decide ((t201 == 0) = (decide ((rd l0 x6_1) ≥ 0))) = false := by simpa using c15))
                      (try (have c15b2 : ((t201 == 0) == (decide ((rd l0 x6_1) ≥ 0))) = false := by simpa using c15))
                      (try (have c15b3 : ¬ ((t201 == 0) = (decide ((rd l0 x6_1) ≥ 0))) := by simpa using c15))
                      clear c15
                      obtain rfl := Option.some.inj H
                      have p195 : 0 ≤ (x6_1 : Int) := of_decide_eq_true (by first | (with_reducible assumption) | assumption)
                      have q195 : x6_1 < (l0.length : Int) := of_decide_eq_true (by first | (with_reducible assumption) | assumption)
                      obtain ⟨ad195, e195, hx195_0⟩ := Kd.at_int HR0.out x6_1 p195 q195
                      cases e195
                      replace hx195_0 := (HB.out.cell (World.block_lt_of_cell? w _ hx195_0)).trans hx195_0
                      replace p195 := eq_true p195
                      replace q195 := eq_true q195
                      go_wp2_with (first | ((with_reducible refine gate_callee (f := 26) rfl ?_); refine goesL_ (some 37) rfl rfl Try.func26 (by kernel_rfl) rfl #[.int .i64 (rd l0 x6_1), .int .i64 1099511627776] rfl (by (try simp only [List.map_toArray, List.map_cons, List.map_nil]); first | done | rfl | (simp only [List.length_drop, List.length_take]; rfl)) ?_; (with_reducible refine (garretbook_Among.calls (rd l0 x6_1) 1099511627776 t196 _ A11.out).mono ?_); rintro e w' ⟨rfl, ⟨nd, rfl⟩⟩; refine ⟨_, rfl, ?_⟩) | ((with_reducible refine gate_callee (f := 8) rfl ?_); refine goesL_ (some 38) rfl rfl Try.func8 (by kernel_rfl) rfl #[.int .i64 t196, .int .i64 5] rfl (by (try simp only [List.map_toArray, List.map_cons, List.map_nil]); first | done | rfl | (simp only [List.length_drop, List.length_take]; rfl)) ?_; (with_reducible refine (num_Fixed.calls kj5 t196 5 t197 t198 _ A12.out).mono ?_); rintro e w16 ⟨rfl, hb⟩; refine ⟨_, rfl, ?_⟩; have n0_ := Aside0.mk (below_step (by repeat (first | (with_reducible first | exact HB.out | apply below_alloc | apply pw_below_drewN | apply below_drew1) | exact HB.out)) hb); clear HB; have HB := n0_; clear n0_; (try clear hb); (try clear hb2); (try clear hk); (try clear hi); have p199 : 0 ≤ (x6_1 : Int) := of_decide_eq_true (by first | (with_reducible assumption) | assumption); have q199 : x6_1 < (l0.length : Int) := of_decide_eq_true (by first | (with_reducible assumption) | assumption); obtain ⟨ad199, e199, hx199_0⟩ := Kd.at_int HR0.out x6_1 p199 q199; obtain rfl : ad195 = ad199 := (by injection e199); replace hx199_0 := (HB.out.cell (World.block_lt_of_cell? w _ hx199_0)).trans hx199_0; replace p199 := eq_true p199; replace q199 := eq_true q199) | ((with_reducible refine gate_callee (f := 10) rfl ?_); refine goesL_ (some 46) rfl rfl Try.func10 (by kernel_rfl) rfl #[.int .i64 (rd l0 x6_1)] rfl (by (try simp only [List.map_toArray, List.map_cons, List.map_nil]); first | done | rfl | (simp only [List.length_drop, List.length_take]; rfl)) ?_; (with_reducible refine (num_Short.calls kj5 (rd l0 x6_1) t200 t201 _ A13.out).mono ?_); rintro e w17 ⟨rfl, hb⟩; refine ⟨_, rfl, ?_⟩; have n0_ := Aside0.mk (below_step (by repeat (first | (with_reducible first | exact HB.out | apply below_alloc | apply pw_below_drewN | apply below_drew1) | exact HB.out)) hb); clear HB; have HB := n0_; clear n0_; (try clear hb); (try clear hb2); (try clear hk); (try clear hi); have p202 : 0 ≤ (x6_1 : Int) := of_decide_eq_true (by first | (with_reducible assumption) | assumption); have q202 : x6_1 < (l0.length : Int) := of_decide_eq_true (by first | (with_reducible assumption) | assumption); obtain ⟨ad202, e202, hx202_0⟩ := Kd.at_int HR0.out x6_1 p202 q202; obtain rfl : ad195 = ad202 := (by injection e202); replace hx202_0 := (HB.out.cell (World.block_lt_of_cell? w _ hx202_0)).trans hx202_0; replace p202 := eq_true p202; replace q202 := eq_true q202))
                      go_ret
                      exact ⟨by first | rfl | (simp [errW_none, errW_some] <;> rfl) | (simp [*, errW_none, errW_some] <;> rfl), by repeat (first | (with_reducible first | exact HB.out | apply below_alloc | apply pw_below_drewN | apply below_drew1) | exact HB.out)⟩
                    · rw [if_neg c15] at H
                      have c15b0 : ((t201 == 0) != (decide ((rd l0 x6_1) ≥ 0))) = false := by simpa using c15
                      (try (have c15b1 : decide ((t201 == 0) = (decide ((rd l0 x6_1) ≥ 0))) = true := by simpa using c15))
                      (try (have c15b2 : ((t201 == 0) == (decide ((rd l0 x6_1) ≥ 0))) = true := by simpa using c15))
                      clear c15
                      by_cases c18 : t197.size + t200.size ≤ 9223372036854775807
                      · rw [if_pos c18] at H
                        have c18b0 := eq_true c18
                        have c18b1 : decide (t197.size + t200.size ≤ 9223372036854775807) = true := decide_eq_true c18
                        try have c18b2 : (9223372036854775807 < t197.size + t200.size) = False := eq_false (Nat.not_lt.2 c18)
                        by_cases c19 : x5_1.size + (t197 ++ t200).size ≤ 9223372036854775807
                        · rw [if_pos c19] at H
                          have c19b0 := eq_true c19
                          have c19b1 : decide (x5_1.size + (t197 ++ t200).size ≤ 9223372036854775807) = true := decide_eq_true c19
                          try have c19b2 : (9223372036854775807 < x5_1.size + (t197 ++ t200).size) = False := eq_false (Nat.not_lt.2 c19)
                          have H' := Aside0.mk H
                          clear H
                          have p195 : 0 ≤ (x6_1 : Int) := of_decide_eq_true (by first | (with_reducible assumption) | assumption)
                          have q195 : x6_1 < (l0.length : Int) := of_decide_eq_true (by first | (with_reducible assumption) | assumption)
                          obtain ⟨ad195, e195, hx195_0⟩ := Kd.at_int HR0.out x6_1 p195 q195
                          cases e195
                          replace hx195_0 := (HB.out.cell (World.block_lt_of_cell? w _ hx195_0)).trans hx195_0
                          replace p195 := eq_true p195
                          replace q195 := eq_true q195
                          go_wp2_with (first | ((with_reducible refine gate_callee (f := 26) rfl ?_); refine goesL_ (some 37) rfl rfl Try.func26 (by kernel_rfl) rfl #[.int .i64 (rd l0 x6_1), .int .i64 1099511627776] rfl (by (try simp only [List.map_toArray, List.map_cons, List.map_nil]); first | done | rfl | (simp only [List.length_drop, List.length_take]; rfl)) ?_; (with_reducible refine (garretbook_Among.calls (rd l0 x6_1) 1099511627776 t196 _ A11.out).mono ?_); rintro e w' ⟨rfl, ⟨nd, rfl⟩⟩; refine ⟨_, rfl, ?_⟩) | ((with_reducible refine gate_callee (f := 8) rfl ?_); refine goesL_ (some 38) rfl rfl Try.func8 (by kernel_rfl) rfl #[.int .i64 t196, .int .i64 5] rfl (by (try simp only [List.map_toArray, List.map_cons, List.map_nil]); first | done | rfl | (simp only [List.length_drop, List.length_take]; rfl)) ?_; (with_reducible refine (num_Fixed.calls kj5 t196 5 t197 t198 _ A12.out).mono ?_); rintro e w20 ⟨rfl, hb⟩; refine ⟨_, rfl, ?_⟩; have n0_ := Aside0.mk (below_step (by repeat (first | (with_reducible first | exact HB.out | apply below_alloc | apply pw_below_drewN | apply below_drew1) | exact HB.out)) hb); clear HB; have HB := n0_; clear n0_; (try clear hb); (try clear hb2); (try clear hk); (try clear hi); have p199 : 0 ≤ (x6_1 : Int) := of_decide_eq_true (by first | (with_reducible assumption) | assumption); have q199 : x6_1 < (l0.length : Int) := of_decide_eq_true (by first | (with_reducible assumption) | assumption); obtain ⟨ad199, e199, hx199_0⟩ := Kd.at_int HR0.out x6_1 p199 q199; obtain rfl : ad195 = ad199 := (by injection e199); replace hx199_0 := (HB.out.cell (World.block_lt_of_cell? w _ hx199_0)).trans hx199_0; replace p199 := eq_true p199; replace q199 := eq_true q199) | ((with_reducible refine gate_callee (f := 10) rfl ?_); refine goesL_ (some 46) rfl rfl Try.func10 (by kernel_rfl) rfl #[.int .i64 (rd l0 x6_1)] rfl (by (try simp only [List.map_toArray, List.map_cons, List.map_nil]); first | done | rfl | (simp only [List.length_drop, List.length_take]; rfl)) ?_; (with_reducible refine (num_Short.calls kj5 (rd l0 x6_1) t200 t201 _ A13.out).mono ?_); rintro e w21 ⟨rfl, hb⟩; refine ⟨_, rfl, ?_⟩; have n0_ := Aside0.mk (below_step (by repeat (first | (with_reducible first | exact HB.out | apply below_alloc | apply pw_below_drewN | apply below_drew1) | exact HB.out)) hb); clear HB; have HB := n0_; clear n0_; (try clear hb); (try clear hb2); (try clear hk); (try clear hi); have p202 : 0 ≤ (x6_1 : Int) := of_decide_eq_true (by first | (with_reducible assumption) | assumption); have q202 : x6_1 < (l0.length : Int) := of_decide_eq_true (by first | (with_reducible assumption) | assumption); obtain ⟨ad202, e202, hx202_0⟩ := Kd.at_int HR0.out x6_1 p202 q202; obtain rfl : ad195 = ad202 := (by injection e202); replace hx202_0 := (HB.out.cell (World.block_lt_of_cell? w _ hx202_0)).trans hx202_0; replace p202 := eq_true p202; replace q202 := eq_true q202))
                          go_roundg kj5
                          case measure => have := HK1.out; have := HJ5.out; omega
                          case rel => exact ⟨(x5_1 ++ (t197 ++ t200)), (wrap64 (x6_1 + 1)), (by first | rfl | (simp; done) | (simp [*]; done)), (by first | rfl | (simp; done) | (simp [*]; done)), H', ⟨by have := HK1.out; have := HJ5.out; omega⟩, ⟨by repeat (first | (with_reducible first | exact HB.out | apply below_alloc | apply pw_below_drewN | apply below_drew1) | exact HB.out)⟩⟩
                        · rw [if_neg c19] at H
                          exact absurd H (by simp)
                      · rw [if_neg c18] at H
                        exact absurd H (by simp)
                  · rw [if_neg c14] at H
                    have c14b0 : (t198 == 0) = false := beq_eq_false_iff_ne.mpr c14
                    have c14b1 : (t198 != 0) = true := bne_iff_ne.mpr c14
                    obtain rfl := Option.some.inj H
                    have p195 : 0 ≤ (x6_1 : Int) := of_decide_eq_true (by first | (with_reducible assumption) | assumption)
                    have q195 : x6_1 < (l0.length : Int) := of_decide_eq_true (by first | (with_reducible assumption) | assumption)
                    obtain ⟨ad195, e195, hx195_0⟩ := Kd.at_int HR0.out x6_1 p195 q195
                    cases e195
                    replace hx195_0 := (HB.out.cell (World.block_lt_of_cell? w _ hx195_0)).trans hx195_0
                    replace p195 := eq_true p195
                    replace q195 := eq_true q195
                    go_wp2_with (first | ((with_reducible refine gate_callee (f := 26) rfl ?_); refine goesL_ (some 37) rfl rfl Try.func26 (by kernel_rfl) rfl #[.int .i64 (rd l0 x6_1), .int .i64 1099511627776] rfl (by (try simp only [List.map_toArray, List.map_cons, List.map_nil]); first | done | rfl | (simp only [List.length_drop, List.length_take]; rfl)) ?_; (with_reducible refine (garretbook_Among.calls (rd l0 x6_1) 1099511627776 t196 _ A11.out).mono ?_); rintro e w' ⟨rfl, ⟨nd, rfl⟩⟩; refine ⟨_, rfl, ?_⟩) | ((with_reducible refine gate_callee (f := 8) rfl ?_); refine goesL_ (some 38) rfl rfl Try.func8 (by kernel_rfl) rfl #[.int .i64 t196, .int .i64 5] rfl (by (try simp only [List.map_toArray, List.map_cons, List.map_nil]); first | done | rfl | (simp only [List.length_drop, List.length_take]; rfl)) ?_; (with_reducible refine (num_Fixed.calls kj5 t196 5 t197 t198 _ A12.out).mono ?_); rintro e w22 ⟨rfl, hb⟩; refine ⟨_, rfl, ?_⟩; have n0_ := Aside0.mk (below_step (by repeat (first | (with_reducible first | exact HB.out | apply below_alloc | apply pw_below_drewN | apply below_drew1) | exact HB.out)) hb); clear HB; have HB := n0_; clear n0_; (try clear hb); (try clear hb2); (try clear hk); (try clear hi); have p199 : 0 ≤ (x6_1 : Int) := of_decide_eq_true (by first | (with_reducible assumption) | assumption); have q199 : x6_1 < (l0.length : Int) := of_decide_eq_true (by first | (with_reducible assumption) | assumption); obtain ⟨ad199, e199, hx199_0⟩ := Kd.at_int HR0.out x6_1 p199 q199; obtain rfl : ad195 = ad199 := (by injection e199); replace hx199_0 := (HB.out.cell (World.block_lt_of_cell? w _ hx199_0)).trans hx199_0; replace p199 := eq_true p199; replace q199 := eq_true q199) | ((with_reducible refine gate_callee (f := 10) rfl ?_); refine goesL_ (some 46) rfl rfl Try.func10 (by kernel_rfl) rfl #[.int .i64 (rd l0 x6_1)] rfl (by (try simp only [List.map_toArray, List.map_cons, List.map_nil]); first | done | rfl | (simp only [List.length_drop, List.length_take]; rfl)) ?_; (with_reducible refine (num_Short.calls kj5 (rd l0 x6_1) t200 t201 _ A13.out).mono ?_); rintro e w23 ⟨rfl, hb⟩; refine ⟨_, rfl, ?_⟩; have n0_ := Aside0.mk (below_step (by repeat (first | (with_reducible first | exact HB.out | apply below_alloc | apply pw_below_drewN | apply below_drew1) | exact HB.out)) hb); clear HB; have HB := n0_; clear n0_; (try clear hb); (try clear hb2); (try clear hk); (try clear hi)))
                    go_ret
                    exact ⟨by first | rfl | (simp [errW_none, errW_some] <;> rfl) | (simp [*, errW_none, errW_some] <;> rfl), by repeat (first | (with_reducible first | exact HB.out | apply below_alloc | apply pw_below_drewN | apply below_drew1) | exact HB.out)⟩
                · rw [if_neg c10] at H
                  exact absurd H (by simp)
              · rw [if_neg c9] at H
                exact absurd H (by simp)
            · replace c8 := Bool.eq_false_iff.mpr c8
              subst c8
              have H1 : (garretlaw01_NumBack.l1 kj5 l0 l1 x5_1 0) = some r := by rw [if_neg (show ¬ (false = true) by decide)] at H; exact H
              clear H
              have H := H1
              clear H1
              have H' := Aside0.mk H
              clear H
              go_wp2
              go_loopg [5, 11] kj5 (fun kq v5 v11 w' => ∃ (x5_3 : ByteArray) (x11_3 : Int), v5 = .string x5_3 ∧ v11 = .int .i64 x11_3 ∧ Aside0 (garretlaw01_NumBack.l1 kq l0 l1 x5_3 x11_3 = some r) ∧ Aside0 (kq ≤ kj5) ∧ Aside0 (Below w.heap.size w w'))
              case atStart => exact ⟨(x5_1), (0), (by first | rfl | (simp; done) | (simp [*]; done)), (by first | rfl | (simp; done) | (simp [*]; done)), H', ⟨Nat.le_refl _⟩, ⟨by repeat (first | (with_reducible first | exact HB.out | apply below_alloc | apply pw_below_drewN | apply below_drew1) | exact HB.out)⟩⟩
              case round =>
                clear H'
                try clear c1
                try clear p1
                try clear q1
                try clear hx1
                try clear c2
                try clear p2
                try clear q2
                try clear hx2
                try clear c4
                try clear p6
                try clear c7
                try clear c7b0
                try clear c8
                try clear c9
                try clear c9b0
                try clear c10
                try clear c10b0
                try clear c14
                try clear c14b0
                try clear c14b1
                try clear c15
                try clear c15b0
                try clear c15b1
                try clear c15b2
                try clear c18
                try clear c18b0
                try clear c18b1
                try clear c18b2
                try clear c19
                try clear c19b0
                try clear c19b1
                try clear c19b2
                try clear p19
                try clear q19
                try clear hx19
                try clear p20
                try clear q20
                try clear hx20
                try clear hx195_0
                try clear hx199_0
                try clear hx202_0
                try clear p195
                try clear p199
                try clear p2
                try clear p202
                try clear q195
                try clear q199
                try clear q202
                obtain ⟨x5_3, x11_3, rfl, rfl, HA, HK3, HB⟩ := hrel
                cases gk with
                | zero => exact absurd HA.out (by simp [garretlaw01_NumBack.l1])
                | succ k3 =>
                  have H := HA.out
                  clear HA
                  simp only [garretlaw01_NumBack.l1] at H
                  have HC24 := Aside0.mk H
                  clear H
                  go_upto_region 13 with (fail)
                  go_cut [73] (fun v73 wc => ∃ (kq : Nat) (x73_23 : Bool), v73 = .bool x73_23 ∧ Aside0 (garretlaw01_NumBack.j3 kq l0 l1 x5_3 x11_3 x73_23 = some r) ∧ Aside0 (kq ≤ k3) ∧ Aside0 (Below w.heap.size w wc))
                  case first =>
                    have H := HC24.out
                    clear HC24
                    by_cases c25 : x11_3 < (l1.length : Int)
                    · rw [if_pos c25] at H
                      have c25b0 : decide (x11_3 < (l1.length : Int)) = true := decide_eq_true c25
                      clear c25
                      (first | rw [c25b0] | (simp only [i64_w, i32_w]; rw [c25b0]) | skip)
                      have H' := Aside0.mk H
                      clear H
                      go_wp2
                      go_meet
                      case rel => exact ⟨_, (decide (x11_3 < 30)), (by first | rfl | (simp; done) | (simp [*]; done)), H', ⟨by have := HK1.out; have := HJ5.out; have := HK3.out; first | omega | exact Nat.le_refl _⟩, ⟨by repeat (first | (with_reducible first | exact HB.out | apply below_alloc | apply pw_below_drewN | apply below_drew1) | exact HB.out)⟩⟩
                    · rw [if_neg c25] at H
                      have c25b0 : decide (x11_3 < (l1.length : Int)) = false := decide_eq_false c25
                      clear c25
                      (first | rw [c25b0] | (simp only [i64_w, i32_w]; rw [c25b0]) | skip)
                      have H' := Aside0.mk H
                      clear H
                      go_wp2
                      go_meet
                      case rel => exact ⟨_, (false), (by first | rfl | (simp; done) | (simp [*]; done)), H', ⟨by have := HK1.out; have := HJ5.out; have := HK3.out; first | omega | exact Nat.le_refl _⟩, ⟨by repeat (first | (with_reducible first | exact HB.out | apply below_alloc | apply pw_below_drewN | apply below_drew1) | exact HB.out)⟩⟩
                  case rest =>
                    clear HC24
                    try clear c1
                    try clear p1
                    try clear q1
                    try clear hx1
                    try clear c2
                    try clear p2
                    try clear q2
                    try clear hx2
                    try clear c4
                    try clear p6
                    try clear c7
                    try clear c7b0
                    try clear c8
                    try clear c9
                    try clear c9b0
                    try clear c10
                    try clear c10b0
                    try clear c14
                    try clear c14b0
                    try clear c14b1
                    try clear c15
                    try clear c15b0
                    try clear c15b1
                    try clear c15b2
                    try clear c18
                    try clear c18b0
                    try clear c18b1
                    try clear c18b2
                    try clear c19
                    try clear c19b0
                    try clear c19b1
                    try clear c19b2
                    try clear p19
                    try clear q19
                    try clear hx19
                    try clear p20
                    try clear q20
                    try clear hx20
                    try clear c25
                    try clear c25b0
                    try clear hx195_0
                    try clear hx199_0
                    try clear hx202_0
                    try clear p1
                    try clear p19
                    try clear p195
                    try clear p199
                    try clear p2
                    try clear p20
                    try clear p202
                    try clear p6
                    try clear q1
                    try clear q19
                    try clear q195
                    try clear q199
                    try clear q2
                    try clear q20
                    try clear q202
                    obtain ⟨kq, x73_23, rfl, HA, HJ23, HB⟩ := hcut
                    cases kq with
                    | zero => exact absurd HA.out (by simp [garretlaw01_NumBack.j3])
                    | succ kj23 =>
                      have H := HA.out
                      clear HA
                      simp only [garretlaw01_NumBack.j3] at H
                      by_cases c26 : x73_23 = true
                      · subst c26
                        have H1 : (if 0 ≤ x11_3 then (if x11_3 < (l1.length : Int) then (if ((rdOf ByteArray.empty l1 x11_3).size : Int) ≤ 500 then ((num_Text.f kj23 (rdOf ByteArray.empty l1 x11_3)).bind fun t205 => (if x5_3.size + t205.size ≤ 9223372036854775807 then (garretlaw01_NumBack.l1 kj23 l0 l1 (x5_3 ++ t205) (wrap64 (x11_3 + 1))) else (none))) else (garretlaw01_NumBack.l1 kj23 l0 l1 x5_3 (wrap64 (x11_3 + 1)))) else (none)) else (none)) = some r := by rw [if_pos rfl] at H; exact H
                        clear H
                        have H := H1
                        clear H1
                        by_cases c27 : 0 ≤ x11_3
                        · rw [if_pos c27] at H
                          have c27b0 : decide (0 ≤ x11_3) = true := decide_eq_true c27
                          clear c27
                          by_cases c28 : x11_3 < (l1.length : Int)
                          · rw [if_pos c28] at H
                            have c28b0 : decide (x11_3 < (l1.length : Int)) = true := decide_eq_true c28
                            clear c28
                            by_cases c29 : ((rdOf ByteArray.empty l1 x11_3).size : Int) ≤ 500
                            · rw [if_pos c29] at H
                              have c29b0 : decide (((rdOf ByteArray.empty l1 x11_3).size : Int) ≤ 500) = true := decide_eq_true c29
                              have c29b1 : decide ((rdOf ByteArray.empty l1 x11_3).size ≤ 500) = true := decide_eq_true (by omega)
                              clear c29
                              replace H := Option.bind_eq_some_iff.mp H
                              obtain ⟨t205, A300, H⟩ := H
                              replace H : (if x5_3.size + t205.size ≤ 9223372036854775807 then (garretlaw01_NumBack.l1 kj23 l0 l1 (x5_3 ++ t205) (wrap64 (x11_3 + 1))) else (none)) = some r := H
                              have A30 := Aside0.mk A300
                              clear A300
                              by_cases c31 : x5_3.size + t205.size ≤ 9223372036854775807
                              · rw [if_pos c31] at H
                                have c31b0 := eq_true c31
                                have c31b1 : decide (x5_3.size + t205.size ≤ 9223372036854775807) = true := decide_eq_true c31
                                try have c31b2 : (9223372036854775807 < x5_3.size + t205.size) = False := eq_false (Nat.not_lt.2 c31)
                                have H' := Aside0.mk H
                                clear H
                                have p203 : 0 ≤ (x11_3 : Int) := of_decide_eq_true (by first | (with_reducible assumption) | assumption)
                                have q203 : x11_3 < (l1.length : Int) := of_decide_eq_true (by first | (with_reducible assumption) | assumption)
                                obtain ⟨ad203, e203, hx203_0⟩ := Kd.at_string HR1.out x11_3 p203 q203
                                cases e203
                                replace hx203_0 := (HB.out.cell (World.block_lt_of_cell? w _ hx203_0)).trans hx203_0
                                replace p203 := eq_true p203
                                replace q203 := eq_true q203
                                have p204 : 0 ≤ (x11_3 : Int) := of_decide_eq_true (by first | (with_reducible assumption) | assumption)
                                have q204 : x11_3 < (l1.length : Int) := of_decide_eq_true (by first | (with_reducible assumption) | assumption)
                                obtain ⟨ad204, e204, hx204_0⟩ := Kd.at_string HR1.out x11_3 p204 q204
                                obtain rfl : ad203 = ad204 := (by injection e204)
                                replace hx204_0 := (HB.out.cell (World.block_lt_of_cell? w _ hx204_0)).trans hx204_0
                                replace p204 := eq_true p204
                                replace q204 := eq_true q204
                                go_wp2_with (first | ((with_reducible refine gate_callee (f := 12) rfl ?_); refine goesL_ (some 87) rfl rfl Try.func12 (by kernel_rfl) rfl #[.string (rdOf ByteArray.empty l1 x11_3)] rfl (by (try simp only [List.map_toArray, List.map_cons, List.map_nil]); first | done | rfl | (simp only [List.length_drop, List.length_take]; rfl)) ?_; (with_reducible refine (num_Text.calls kj23 (rdOf ByteArray.empty l1 x11_3) t205 _ A30.out).mono ?_); rintro e w32 ⟨rfl, hb⟩; refine ⟨_, rfl, ?_⟩; have n0_ := Aside0.mk (below_step (by repeat (first | (with_reducible first | exact HB.out | apply below_alloc | apply pw_below_drewN | apply below_drew1) | exact HB.out)) hb); clear HB; have HB := n0_; clear n0_; (try clear hb); (try clear hb2); (try clear hk); (try clear hi)))
                                go_roundg kj23
                                case measure => have := HK1.out; have := HJ5.out; have := HK3.out; have := HJ23.out; omega
                                case rel => exact ⟨(x5_3 ++ t205), (wrap64 (x11_3 + 1)), (by first | rfl | (simp; done) | (simp [*]; done)), (by first | rfl | (simp; done) | (simp [*]; done)), H', ⟨by have := HK1.out; have := HJ5.out; have := HK3.out; have := HJ23.out; omega⟩, ⟨by repeat (first | (with_reducible first | exact HB.out | apply below_alloc | apply pw_below_drewN | apply below_drew1) | exact HB.out)⟩⟩
                              · rw [if_neg c31] at H
                                exact absurd H (by simp)
                            · rw [if_neg c29] at H
                              have c29b0 : decide (((rdOf ByteArray.empty l1 x11_3).size : Int) ≤ 500) = false := decide_eq_false c29
                              have c29b1 : decide ((rdOf ByteArray.empty l1 x11_3).size ≤ 500) = false := decide_eq_false (by omega)
                              clear c29
                              have H' := Aside0.mk H
                              clear H
                              have p203 : 0 ≤ (x11_3 : Int) := of_decide_eq_true (by first | (with_reducible assumption) | assumption)
                              have q203 : x11_3 < (l1.length : Int) := of_decide_eq_true (by first | (with_reducible assumption) | assumption)
                              obtain ⟨ad203, e203, hx203_0⟩ := Kd.at_string HR1.out x11_3 p203 q203
                              cases e203
                              replace hx203_0 := (HB.out.cell (World.block_lt_of_cell? w _ hx203_0)).trans hx203_0
                              replace p203 := eq_true p203
                              replace q203 := eq_true q203
                              go_wp2
                              go_roundg kj23
                              case measure => have := HK1.out; have := HJ5.out; have := HK3.out; have := HJ23.out; omega
                              case rel => exact ⟨(x5_3), (wrap64 (x11_3 + 1)), (by first | rfl | (simp; done) | (simp [*]; done)), (by first | rfl | (simp; done) | (simp [*]; done)), H', ⟨by have := HK1.out; have := HJ5.out; have := HK3.out; have := HJ23.out; omega⟩, ⟨by repeat (first | (with_reducible first | exact HB.out | apply below_alloc | apply pw_below_drewN | apply below_drew1) | exact HB.out)⟩⟩
                          · rw [if_neg c28] at H
                            exact absurd H (by simp)
                        · rw [if_neg c27] at H
                          exact absurd H (by simp)
                      · replace c26 := Bool.eq_false_iff.mpr c26
                        subst c26
                        have H1 : ((some (([0, 1] : List Int) : List Int)).bind fun y206 => (garretlaw01_NumBack.l2 kj23 l0 l1 x5_3 y206 (y206.length : Int) 0)) = some r := by rw [if_neg (show ¬ (false = true) by decide)] at H; exact H
                        clear H
                        have H := H1
                        clear H1
                        obtain ⟨y206, hy206⟩ : ∃ y_ : List Int, y_ = (([0, 1] : List Int)) := ⟨_, rfl⟩
                        replace H : (garretlaw01_NumBack.l2 kj23 l0 l1 x5_3 y206 (y206.length : Int) 0) = some r := by first | (rw [hy206]; with_reducible exact H) | (have H2_ := (Option.bind_some _ _).symm.trans H; rw [hy206]; with_reducible exact H2_) | (have H2_ := (Option.bind_some _ _).symm.trans H; with_reducible exact H2_) | with_reducible exact H | (rw [hy206]; exact H) | exact H
                        have Ny206 := Aside0.mk hy206
                        clear hy206
                        have H' := Aside0.mk H
                        clear H
                        go_wp2_with (first | ((with_reducible refine gate_dst (N := 89) rfl ?_); refine Kd.R_lit (Kd.int .i64) _ 3 ?hg (N := 89) ?hd (xs := ([0, 1] : List Int)) (inner := [.int .i64 0, .int .i64 1]) (ok := fun _ => True) (okp := fun _ => True) ?hr ?hp (fun _ hk => hk) trivial (Below.refl _ _) (Nat.le_refl _) (by simp) ?_; (case hd => rfl); (case hg => rfl); (case hr => first | (go_simp; done) | (go_simp; rfl)); (case hp => exact (Reps.one (show Kd.M (Kd.int .i64) _ _ _ 0 [.int .i64 0] from rfl) (Reps.one (show Kd.M (Kd.int .i64) _ _ _ 1 [.int .i64 1] from rfl) (Reps.none _ _)))); intro v207 w33 ho34 hb hg_ hnew_; clear hg_ hnew_; (first | rw [← Ny206.out] at ho34 | (simp only [Int.reduceToNat] at ho34; rw [← Ny206.out] at ho34)); have n0_ := Aside0.mk (Kd.R_lower ho34 (below_size (by repeat (first | (with_reducible first | exact HB.out | apply below_alloc | apply pw_below_drewN | apply below_drew1) | exact HB.out)))); have n1_ := Aside0.mk (below_step (by repeat (first | (with_reducible first | exact HB.out | apply below_alloc | apply pw_below_drewN | apply below_drew1) | exact HB.out)) hb); clear HB; have HO208 := n0_; have HB := n1_; clear n0_ n1_; clear hb ho34; obtain ⟨Ao35, co35, eo35⟩ := Kd.R_slice HO208.out; subst eo35))
                        go_loopg [91] kj23 (fun kq v91 w' => ∃ (x91_5 : Int), v91 = .int .i64 x91_5 ∧ Aside0 (garretlaw01_NumBack.l2 kq l0 l1 x5_3 y206 (y206.length : Int) x91_5 = some r) ∧ Aside0 (kq ≤ kj23) ∧ Aside0 (Kd.R (Kd.int .i64) 3 w' w.heap.size (fun _ => True) (.slice Ao35 y206.length co35) y206) ∧ Aside0 (Below w.heap.size w w'))
                        case atStart => exact ⟨(0), (by first | rfl | (simp; done) | (simp [*]; done)), H', ⟨Nat.le_refl _⟩, ⟨by (with_reducible repeat (first | apply Kd.R_alloc | apply Kd.R_drewN | apply Kd.R_drew)); exact HO208.out⟩, ⟨by repeat (first | (with_reducible first | exact HB.out | apply below_alloc | apply pw_below_drewN | apply below_drew1) | exact HB.out)⟩⟩
                        case round =>
                          clear H'
                          try clear c1
                          try clear p1
                          try clear q1
                          try clear hx1
                          try clear c2
                          try clear p2
                          try clear q2
                          try clear hx2
                          try clear c3
                          try clear c4
                          try clear p6
                          try clear c7
                          try clear c7b0
                          try clear c8
                          try clear c9
                          try clear c9b0
                          try clear c10
                          try clear c10b0
                          try clear c12
                          try clear c14
                          try clear c14b0
                          try clear c14b1
                          try clear c15
                          try clear c15b0
                          try clear c15b1
                          try clear c15b2
                          try clear c18
                          try clear c18b0
                          try clear c18b1
                          try clear c18b2
                          try clear c19
                          try clear c19b0
                          try clear c19b1
                          try clear c19b2
                          try clear p19
                          try clear q19
                          try clear hx19
                          try clear p20
                          try clear q20
                          try clear hx20
                          try clear c25
                          try clear c25b0
                          try clear c26
                          try clear c27
                          try clear c27b0
                          try clear c28
                          try clear c28b0
                          try clear c29
                          try clear c29b0
                          try clear c29b1
                          try clear c31
                          try clear c31b0
                          try clear c31b1
                          try clear c31b2
                          try clear hx195_0
                          try clear hx199_0
                          try clear hx202_0
                          try clear hx203_0
                          try clear hx204_0
                          try clear p1
                          try clear p19
                          try clear p195
                          try clear p199
                          try clear p2
                          try clear p20
                          try clear p202
                          try clear p203
                          try clear p204
                          try clear p6
                          try clear q1
                          try clear q19
                          try clear q195
                          try clear q199
                          try clear q2
                          try clear q20
                          try clear q202
                          try clear q203
                          try clear q204
                          obtain ⟨x91_5, rfl, HA, HK5, HO_89, HB⟩ := hrel
                          cases gk with
                          | zero => exact absurd HA.out (by simp [garretlaw01_NumBack.l2])
                          | succ k5 =>
                            have H := HA.out
                            clear HA
                            simp only [garretlaw01_NumBack.l2] at H
                            by_cases c36 : x91_5 < (y206.length : Int)
                            · rw [if_pos c36] at H
                              have c36b0 : decide (x91_5 < (y206.length : Int)) = true := decide_eq_true c36
                              clear c36
                              by_cases c37 : 0 ≤ x91_5
                              · rw [if_pos c37] at H
                                have c37b0 : decide (0 ≤ x91_5) = true := decide_eq_true c37
                                clear c37
                                by_cases c38 : x91_5 < (y206.length : Int)
                                · rw [if_pos c38] at H
                                  have c38b0 : decide (x91_5 < (y206.length : Int)) = true := decide_eq_true c38
                                  clear c38
                                  by_cases c39 : (x5_3.size : Int) < (rd y206 x91_5)
                                  · rw [if_pos c39] at H
                                    have c39b0 : decide ((x5_3.size : Int) < (rd y206 x91_5)) = true := decide_eq_true c39
                                    clear c39
                                    obtain rfl := Option.some.inj H
                                    have p209 : 0 ≤ (x91_5 : Int) := of_decide_eq_true (by first | (with_reducible assumption) | assumption)
                                    have q209 : x91_5 < (y206.length : Int) := of_decide_eq_true (by first | (with_reducible assumption) | assumption)
                                    obtain ⟨ad209, e209, hx209_0⟩ := Kd.at_int (Kd.R_reads' HO_89.out).2.2 x91_5 p209 q209
                                    cases e209
                                    replace p209 := eq_true p209
                                    replace q209 := eq_true q209
                                    go_wp2
                                    go_ret
                                    exact ⟨by first | rfl | (simp [errW_none, errW_some] <;> rfl) | (simp [*, errW_none, errW_some] <;> rfl), by repeat (first | (with_reducible first | exact HB.out | apply below_alloc | apply pw_below_drewN | apply below_drew1) | exact HB.out)⟩
                                  · rw [if_neg c39] at H
                                    have c39b0 : decide ((x5_3.size : Int) < (rd y206 x91_5)) = false := decide_eq_false c39
                                    clear c39
                                    obtain ⟨ji40, hji40⟩ : ∃ j_ : Int, (wrap64 ((x5_3.size : Int) - (rd y206 x91_5))) = j_ := ⟨_, rfl⟩
                                    replace H : (if 0 ≤ (ji40) then (if (ji40) ≤ (x5_3.size : Int) then ((num_Read.f (x5_3.extract 0 ((ji40) : Int).toNat)).bind fun bt210 => (garretlaw01_NumBack.l3 k5 l0 l1 x5_3 (rd y206 x91_5) 0 y206 (y206.length : Int) x91_5 bt210.1 bt210.2)) else (none)) else (none)) = some r := by first | (rw [hji40] at H; exact H) | (simp only [hji40] at H ⊢; exact H)
                                    have hji40w : (IntKind.i64.wrap ((x5_3.size : Int) - (rd y206 x91_5))) = ji40 := (i64_w _).trans hji40
                                    by_cases c41 : 0 ≤ (ji40)
                                    · rw [if_pos c41] at H
                                      have c41b0 := eq_true c41
                                      have c41b1 : decide (0 ≤ (ji40)) = true := decide_eq_true c41
                                      clear c41
                                      by_cases c42 : (ji40) ≤ (x5_3.size : Int)
                                      · rw [if_pos c42] at H
                                        have c42b0 := eq_true c42
                                        have c42b1 : decide ((ji40) ≤ (x5_3.size : Int)) = true := decide_eq_true c42
                                        clear c42
                                        replace H := Option.bind_eq_some_iff.mp H
                                        obtain ⟨⟨t210, t211⟩, A430, H⟩ := H
                                        replace H : (garretlaw01_NumBack.l3 k5 l0 l1 x5_3 (rd y206 x91_5) 0 y206 (y206.length : Int) x91_5 t210 t211) = some r := H
                                        have A43 := Aside0.mk A430
                                        clear A430
                                        have H' := Aside0.mk H
                                        clear H
                                        have p209 : 0 ≤ (x91_5 : Int) := of_decide_eq_true (by first | (with_reducible assumption) | assumption)
                                        have q209 : x91_5 < (y206.length : Int) := of_decide_eq_true (by first | (with_reducible assumption) | assumption)
                                        obtain ⟨ad209, e209, hx209_0⟩ := Kd.at_int (Kd.R_reads' HO_89.out).2.2 x91_5 p209 q209
                                        cases e209
                                        replace p209 := eq_true p209
                                        replace q209 := eq_true q209
                                        go_wp2_with (first | ((with_reducible refine gate_callee (f := 15) rfl ?_); refine goesL_ (some 105) rfl rfl Try.func15 (by kernel_rfl) rfl #[.string (x5_3.extract 0 ((ji40) : Int).toNat)] rfl (by (try simp only [List.map_toArray, List.map_cons, List.map_nil]); first | done | (simp only [hji40]; rfl) | rfl | (simp only [List.length_drop, List.length_take]; rfl)) ?_; (with_reducible refine (num_Read.calls (x5_3.extract 0 ((ji40) : Int).toNat) t210 t211 w _ ?side1 A43.out).mono ?_); (case side1 => repeat (first | (with_reducible first | exact HB.out | apply below_alloc | apply pw_below_drewN | apply below_drew1) | exact HB.out)); rintro e w44 ⟨g212, rfl, hi, hb, hb2⟩; refine ⟨_, rfl, ?_⟩; have n0_ := Aside0.mk (Kd.R_below (by (with_reducible repeat (first | apply Kd.R_alloc | apply Kd.R_drewN | apply Kd.R_drew)); exact HO_89.out) hb2); have n1_ := Aside0.mk (hb); have n2_ := Aside0.mk (hi); clear HO_89; clear HB; have HO_89 := n0_; have HB := n1_; have HI212 := n2_; clear n0_ n1_ n2_; (try clear hb); (try clear hb2); (try clear hk); (try clear hi)))
                                        go_loopg [15] k5 (fun kq v15 w' => ∃ (x15_6 : Int) (x213000_6 : ByteArray) (x213001_6 : Int), v15 = .int .i64 x15_6 ∧ Aside0 (garretlaw01_NumBack.l3 kq l0 l1 x5_3 (rd y206 x91_5) x15_6 y206 (y206.length : Int) x91_5 x213000_6 x213001_6 = some r) ∧ Aside0 (kq ≤ k5) ∧ Aside0 (Kd.R (Kd.int .i64) 3 w' w.heap.size (fun _ => True) (.slice (some ad209) y206.length co35) y206) ∧ Aside0 (IsS52 w w' g212 x213000_6 x213001_6) ∧ Aside0 (Below w.heap.size w w'))
                                        case atStart => exact ⟨(0), (t210), (t211), (by first | rfl | (simp; done) | (simp [*]; done)), H', ⟨Nat.le_refl _⟩, ⟨by (with_reducible repeat (first | apply Kd.R_alloc | apply Kd.R_drewN | apply Kd.R_drew)); exact HO_89.out⟩, ⟨by repeat (first | (with_reducible first | exact HI212.out | apply IsS52.alloc | apply IsS52.drewN | apply IsS52.drew | apply IsS52.set_0 | apply IsS52.set_1) | exact HI212.out)⟩, ⟨by repeat (first | (with_reducible first | exact HB.out | apply below_alloc | apply pw_below_drewN | apply below_drew1 | refine below_set ?_ (IsS52.ge HI212.out)) | exact HB.out)⟩⟩
                                        case round =>
                                          clear H'
                                          try clear c1
                                          try clear p1
                                          try clear q1
                                          try clear hx1
                                          try clear c2
                                          try clear p2
                                          try clear q2
                                          try clear hx2
                                          try clear c3
                                          try clear c4
                                          try clear p6
                                          try clear c7
                                          try clear c7b0
                                          try clear c8
                                          try clear c9
                                          try clear c9b0
                                          try clear c10
                                          try clear c10b0
                                          try clear c12
                                          try clear c14
                                          try clear c14b0
                                          try clear c14b1
                                          try clear c15
                                          try clear c15b0
                                          try clear c15b1
                                          try clear c15b2
                                          try clear c18
                                          try clear c18b0
                                          try clear c18b1
                                          try clear c18b2
                                          try clear c19
                                          try clear c19b0
                                          try clear c19b1
                                          try clear c19b2
                                          try clear p19
                                          try clear q19
                                          try clear hx19
                                          try clear p20
                                          try clear q20
                                          try clear hx20
                                          try clear c25
                                          try clear c25b0
                                          try clear c26
                                          try clear c27
                                          try clear c27b0
                                          try clear c28
                                          try clear c28b0
                                          try clear c29
                                          try clear c29b0
                                          try clear c29b1
                                          try clear c31
                                          try clear c31b0
                                          try clear c31b1
                                          try clear c31b2
                                          try clear c36
                                          try clear c36b0
                                          try clear c37
                                          try clear c37b0
                                          try clear c38
                                          try clear c38b0
                                          try clear c39
                                          try clear c39b0
                                          try clear c41
                                          try clear c41b0
                                          try clear c41b1
                                          try clear c42
                                          try clear c42b0
                                          try clear c42b1
                                          try clear hx195_0
                                          try clear hx199_0
                                          try clear hx202_0
                                          try clear hx203_0
                                          try clear hx204_0
                                          try clear hx209_0
                                          try clear p1
                                          try clear p19
                                          try clear p195
                                          try clear p199
                                          try clear p2
                                          try clear p20
                                          try clear p202
                                          try clear p203
                                          try clear p204
                                          try clear p209
                                          try clear p6
                                          try clear q1
                                          try clear q19
                                          try clear q195
                                          try clear q199
                                          try clear q2
                                          try clear q20
                                          try clear q202
                                          try clear q203
                                          try clear q204
                                          try clear q209
                                          obtain ⟨x15_6, x213000_6, x213001_6, rfl, HA, HK6, HO_89, HI212, HB⟩ := hrel
                                          cases gk with
                                          | zero => exact absurd HA.out (by simp [garretlaw01_NumBack.l3])
                                          | succ k6 =>
                                            have H := HA.out
                                            clear HA
                                            simp only [garretlaw01_NumBack.l3] at H
                                            have HC45 := Aside0.mk H
                                            clear H
                                            go_upto_region 26 with (fail)
                                            go_cut [115] (fun v115 wc => ∃ (kq : Nat) (x115_44 : Bool), v115 = .bool x115_44 ∧ Aside0 (garretlaw01_NumBack.j6 kq l0 l1 x5_3 (rd y206 x91_5) x15_6 y206 (y206.length : Int) x91_5 x115_44 x213000_6 x213001_6 = some r) ∧ Aside0 (kq ≤ k6) ∧ Aside0 (Kd.R (Kd.int .i64) 3 wc w.heap.size (fun _ => True) (.slice (some ad209) y206.length co35) y206) ∧ Aside0 (IsS52 w wc g212 x213000_6 x213001_6) ∧ Aside0 (Below w.heap.size w wc))
                                            case first =>
                                              have H := HC45.out
                                              clear HC45
                                              by_cases c46 : x15_6 < (l0.length : Int)
                                              · rw [if_pos c46] at H
                                                have c46b0 : decide (x15_6 < (l0.length : Int)) = true := decide_eq_true c46
                                                clear c46
                                                (first | rw [c46b0] | (simp only [i64_w, i32_w]; rw [c46b0]) | skip)
                                                have H' := Aside0.mk H
                                                clear H
                                                go_wp2
                                                go_meet
                                                case rel => exact ⟨_, (decide (x15_6 < 30)), (by first | rfl | (simp; done) | (simp [*]; done)), H', ⟨by have := HK1.out; have := HJ5.out; have := HK3.out; have := HJ23.out; have := HK5.out; have := HK6.out; first | omega | exact Nat.le_refl _⟩, ⟨by (with_reducible repeat (first | apply Kd.R_alloc | apply Kd.R_drewN | apply Kd.R_drew)); exact HO_89.out⟩, ⟨by repeat (first | (with_reducible first | exact HI212.out | apply IsS52.alloc | apply IsS52.drewN | apply IsS52.drew | apply IsS52.set_0 | apply IsS52.set_1) | exact HI212.out)⟩, ⟨by repeat (first | (with_reducible first | exact HB.out | apply below_alloc | apply pw_below_drewN | apply below_drew1 | refine below_set ?_ (IsS52.ge HI212.out)) | exact HB.out)⟩⟩
                                              · rw [if_neg c46] at H
                                                have c46b0 : decide (x15_6 < (l0.length : Int)) = false := decide_eq_false c46
                                                clear c46
                                                (first | rw [c46b0] | (simp only [i64_w, i32_w]; rw [c46b0]) | skip)
                                                have H' := Aside0.mk H
                                                clear H
                                                go_wp2
                                                go_meet
                                                case rel => exact ⟨_, (false), (by first | rfl | (simp; done) | (simp [*]; done)), H', ⟨by have := HK1.out; have := HJ5.out; have := HK3.out; have := HJ23.out; have := HK5.out; have := HK6.out; first | omega | exact Nat.le_refl _⟩, ⟨by (with_reducible repeat (first | apply Kd.R_alloc | apply Kd.R_drewN | apply Kd.R_drew)); exact HO_89.out⟩, ⟨by repeat (first | (with_reducible first | exact HI212.out | apply IsS52.alloc | apply IsS52.drewN | apply IsS52.drew | apply IsS52.set_0 | apply IsS52.set_1) | exact HI212.out)⟩, ⟨by repeat (first | (with_reducible first | exact HB.out | apply below_alloc | apply pw_below_drewN | apply below_drew1 | refine below_set ?_ (IsS52.ge HI212.out)) | exact HB.out)⟩⟩
                                            case rest =>
                                              clear HC45
                                              try clear c1
                                              try clear p1
                                              try clear q1
                                              try clear hx1
                                              try clear c2
                                              try clear p2
                                              try clear q2
                                              try clear hx2
                                              try clear c3
                                              try clear c4
                                              try clear p6
                                              try clear c7
                                              try clear c7b0
                                              try clear c8
                                              try clear c9
                                              try clear c9b0
                                              try clear c10
                                              try clear c10b0
                                              try clear c12
                                              try clear c14
                                              try clear c14b0
                                              try clear c14b1
                                              try clear c15
                                              try clear c15b0
                                              try clear c15b1
                                              try clear c15b2
                                              try clear c18
                                              try clear c18b0
                                              try clear c18b1
                                              try clear c18b2
                                              try clear c19
                                              try clear c19b0
                                              try clear c19b1
                                              try clear c19b2
                                              try clear p19
                                              try clear q19
                                              try clear hx19
                                              try clear p20
                                              try clear q20
                                              try clear hx20
                                              try clear c25
                                              try clear c25b0
                                              try clear c26
                                              try clear c27
                                              try clear c27b0
                                              try clear c28
                                              try clear c28b0
                                              try clear c29
                                              try clear c29b0
                                              try clear c29b1
                                              try clear c31
                                              try clear c31b0
                                              try clear c31b1
                                              try clear c31b2
                                              try clear c36
                                              try clear c36b0
                                              try clear c37
                                              try clear c37b0
                                              try clear c38
                                              try clear c38b0
                                              try clear c39
                                              try clear c39b0
                                              try clear c41
                                              try clear c41b0
                                              try clear c41b1
                                              try clear c42
                                              try clear c42b0
                                              try clear c42b1
                                              try clear c46
                                              try clear c46b0
                                              try clear hx195_0
                                              try clear hx199_0
                                              try clear hx202_0
                                              try clear hx203_0
                                              try clear hx204_0
                                              try clear hx209_0
                                              try clear p1
                                              try clear p19
                                              try clear p195
                                              try clear p199
                                              try clear p2
                                              try clear p20
                                              try clear p202
                                              try clear p203
                                              try clear p204
                                              try clear p209
                                              try clear p6
                                              try clear q1
                                              try clear q19
                                              try clear q195
                                              try clear q199
                                              try clear q2
                                              try clear q20
                                              try clear q202
                                              try clear q203
                                              try clear q204
                                              try clear q209
                                              obtain ⟨kq, x115_44, rfl, HA, HJ44, HO_89, HI212, HB⟩ := hcut
                                              cases kq with
                                              | zero => exact absurd HA.out (by simp [garretlaw01_NumBack.j6])
                                              | succ kj44 =>
                                                have H := HA.out
                                                clear HA
                                                simp only [garretlaw01_NumBack.j6] at H
                                                by_cases c47 : x115_44 = true
                                                · subst c47
                                                  have H1 : ((num_Reader_Fixed.f x213000_6 x213001_6 5).bind fun bt213 => (if (rd y206 x91_5) = 0 then (if 0 ≤ x15_6 then (if x15_6 < (l0.length : Int) then ((garretbook_Among.f (rd l0 x15_6) 1099511627776).bind fun t217 => (garretlaw01_NumBack.j7 kj44 l0 l1 x5_3 (rd y206 x91_5) x15_6 y206 (y206.length : Int) x91_5 (bt213.1 != t217) bt213.2.1 bt213.2.2)) else (none)) else (none)) else (garretlaw01_NumBack.j7 kj44 l0 l1 x5_3 (rd y206 x91_5) x15_6 y206 (y206.length : Int) x91_5 false bt213.2.1 bt213.2.2))) = some r := by rw [if_pos rfl] at H; exact H
                                                  clear H
                                                  have H := H1
                                                  clear H1
                                                  replace H := Option.bind_eq_some_iff.mp H
                                                  obtain ⟨⟨t213, t214, t215⟩, A480, H⟩ := H
                                                  replace H : (if (rd y206 x91_5) = 0 then (if 0 ≤ x15_6 then (if x15_6 < (l0.length : Int) then ((garretbook_Among.f (rd l0 x15_6) 1099511627776).bind fun t217 => (garretlaw01_NumBack.j7 kj44 l0 l1 x5_3 (rd y206 x91_5) x15_6 y206 (y206.length : Int) x91_5 (t213 != t217) t214 t215)) else (none)) else (none)) else (garretlaw01_NumBack.j7 kj44 l0 l1 x5_3 (rd y206 x91_5) x15_6 y206 (y206.length : Int) x91_5 false t214 t215)) = some r := H
                                                  have A48 := Aside0.mk A480
                                                  clear A480
                                                  have HC49 := Aside0.mk H
                                                  clear H
                                                  go_upto_region 29 with (first | ((with_reducible refine gate_callee (f := 22) rfl ?_); refine goesL_ (some 119) rfl rfl Try.func22 (by kernel_rfl) rfl #[.pointer (some ⟨g212, 0, none⟩), .int .i64 5] rfl (by (try simp only [List.map_toArray, List.map_cons, List.map_nil]); first | done | rfl | (simp only [List.length_drop, List.length_take]; rfl)) ?_; (with_reducible refine (num_Reader_Fixed.calls g212 x213000_6 x213001_6 5 t213 t214 t215 w _ ?side1 ?side2 A48.out).mono ?_); (case side1 => repeat (first | (with_reducible first | exact HI212.out | apply IsS52.alloc | apply IsS52.drewN | apply IsS52.drew | apply IsS52.set_0 | apply IsS52.set_1) | exact HI212.out)); (case side2 => repeat (first | (with_reducible first | exact HB.out | apply below_alloc | apply pw_below_drewN | apply below_drew1 | refine below_set ?_ (IsS52.ge HI212.out)) | exact HB.out)); rintro e w50 ⟨rfl, hi, hb, hk⟩; refine ⟨_, rfl, ?_⟩; have n0_ := Aside0.mk (Kd.R_mono (Kd.R_keep (IsS52.apart (show IsS52 w _ g212 x213000_6 x213001_6 from by repeat (first | (with_reducible first | exact HI212.out | apply IsS52.alloc | apply IsS52.drewN | apply IsS52.drew | apply IsS52.set_0 | apply IsS52.set_1) | exact HI212.out)) (by (with_reducible repeat (first | apply Kd.R_alloc | apply Kd.R_drewN | apply Kd.R_drew)); exact HO_89.out) (by decide)) hk (fun _ h => h.2)) (fun _ h => h.1)); have n1_ := Aside0.mk (hb); have n2_ := Aside0.mk (hi); clear HO_89; clear HB; clear HI212; have HO_89 := n0_; have HB := n1_; have HI212 := n2_; clear n0_ n1_ n2_; (try clear hb); (try clear hb2); (try clear hk); (try clear hi)))
                                                  (try simp only [Act.put, List.setIfInBounds_toArray, List.set_cons_zero, List.set_cons_succ])
                                                  go_cut [130] (fun v130 wc => ∃ (kq : Nat) (x130_48 : Bool), v130 = .bool x130_48 ∧ Aside0 (garretlaw01_NumBack.j7 kq l0 l1 x5_3 (rd y206 x91_5) x15_6 y206 (y206.length : Int) x91_5 x130_48 t214 t215 = some r) ∧ Aside0 (kq ≤ kj44) ∧ Aside0 (Kd.R (Kd.int .i64) 3 wc w.heap.size (fun _ => True) (.slice (some ad209) y206.length co35) y206) ∧ Aside0 (IsS52 w wc g212 t214 t215) ∧ Aside0 (Below w.heap.size w wc))
                                                  case first =>
                                                    have H := HC49.out
                                                    clear HC49
                                                    by_cases c51 : (rd y206 x91_5) = 0
                                                    · rw [if_pos c51] at H
                                                      have c51b0 : ((rd y206 x91_5) == 0) = true := beq_iff_eq.mpr c51
                                                      have c51b1 : ((rd y206 x91_5) != 0) = false := bne_eq_false_iff_eq.mpr c51
                                                      clear c51
                                                      (first | rw [c51b0] | (simp only [i64_w, i32_w]; rw [c51b0]) | skip)
                                                      by_cases c52 : 0 ≤ x15_6
                                                      · rw [if_pos c52] at H
                                                        have c52b0 : decide (0 ≤ x15_6) = true := decide_eq_true c52
                                                        clear c52
                                                        by_cases c53 : x15_6 < (l0.length : Int)
                                                        · rw [if_pos c53] at H
                                                          have c53b0 : decide (x15_6 < (l0.length : Int)) = true := decide_eq_true c53
                                                          clear c53
                                                          replace H := Option.bind_eq_some_iff.mp H
                                                          obtain ⟨t217, A540, H⟩ := H
                                                          replace H : (garretlaw01_NumBack.j7 kj44 l0 l1 x5_3 (rd y206 x91_5) x15_6 y206 (y206.length : Int) x91_5 (t213 != t217) t214 t215) = some r := H
                                                          have A54 := Aside0.mk A540
                                                          clear A540
                                                          have H' := Aside0.mk H
                                                          clear H
                                                          have p216 : 0 ≤ (x15_6 : Int) := of_decide_eq_true (by first | (with_reducible assumption) | assumption)
                                                          have q216 : x15_6 < (l0.length : Int) := of_decide_eq_true (by first | (with_reducible assumption) | assumption)
                                                          obtain ⟨ad216, e216, hx216_0⟩ := Kd.at_int HR0.out x15_6 p216 q216
                                                          cases e216
                                                          replace hx216_0 := (HB.out.cell (World.block_lt_of_cell? w _ hx216_0)).trans hx216_0
                                                          replace p216 := eq_true p216
                                                          replace q216 := eq_true q216
                                                          go_wp2_with (first | (go_at_call 26; (with_reducible refine (garretbook_Among.calls (rd l0 x15_6) 1099511627776 t217 _ A54.out).mono ?_); rintro e w' ⟨rfl, ⟨nd, rfl⟩⟩))
                                                          go_meet
                                                          case rel => exact ⟨_, ((t213 != t217)), (by first | rfl | (simp; done) | (simp [*]; done)), H', ⟨by have := HK1.out; have := HJ5.out; have := HK3.out; have := HJ23.out; have := HK5.out; have := HK6.out; have := HJ44.out; first | omega | exact Nat.le_refl _⟩, ⟨by (with_reducible repeat (first | apply Kd.R_alloc | apply Kd.R_drewN | apply Kd.R_drew)); exact HO_89.out⟩, ⟨by repeat (first | (with_reducible first | exact HI212.out | apply IsS52.alloc | apply IsS52.drewN | apply IsS52.drew | apply IsS52.set_0 | apply IsS52.set_1) | exact HI212.out)⟩, ⟨by repeat (first | (with_reducible first | exact HB.out | apply below_alloc | apply pw_below_drewN | apply below_drew1 | refine below_set ?_ (IsS52.ge HI212.out)) | exact HB.out)⟩⟩
                                                        · rw [if_neg c53] at H
                                                          exact absurd H (by simp)
                                                      · rw [if_neg c52] at H
                                                        exact absurd H (by simp)
                                                    · rw [if_neg c51] at H
                                                      have c51b0 : ((rd y206 x91_5) == 0) = false := beq_eq_false_iff_ne.mpr c51
                                                      have c51b1 : ((rd y206 x91_5) != 0) = true := bne_iff_ne.mpr c51
                                                      (first | rw [c51b0] | (simp only [i64_w, i32_w]; rw [c51b0]) | skip)
                                                      have H' := Aside0.mk H
                                                      clear H
                                                      go_wp2
                                                      go_meet
                                                      case rel => exact ⟨_, (false), (by first | rfl | (simp; done) | (simp [*]; done)), H', ⟨by have := HK1.out; have := HJ5.out; have := HK3.out; have := HJ23.out; have := HK5.out; have := HK6.out; have := HJ44.out; first | omega | exact Nat.le_refl _⟩, ⟨by (with_reducible repeat (first | apply Kd.R_alloc | apply Kd.R_drewN | apply Kd.R_drew)); exact HO_89.out⟩, ⟨by repeat (first | (with_reducible first | exact HI212.out | apply IsS52.alloc | apply IsS52.drewN | apply IsS52.drew | apply IsS52.set_0 | apply IsS52.set_1) | exact HI212.out)⟩, ⟨by repeat (first | (with_reducible first | exact HB.out | apply below_alloc | apply pw_below_drewN | apply below_drew1 | refine below_set ?_ (IsS52.ge HI212.out)) | exact HB.out)⟩⟩
                                                  case rest =>
                                                    clear HC49
                                                    try clear c1
                                                    try clear p1
                                                    try clear q1
                                                    try clear hx1
                                                    try clear c2
                                                    try clear p2
                                                    try clear q2
                                                    try clear hx2
                                                    try clear c3
                                                    try clear c4
                                                    try clear c5
                                                    try clear p6
                                                    try clear c7
                                                    try clear c7b0
                                                    try clear c8
                                                    try clear c9
                                                    try clear c9b0
                                                    try clear c10
                                                    try clear c10b0
                                                    try clear c12
                                                    try clear c14
                                                    try clear c14b0
                                                    try clear c14b1
                                                    try clear c15
                                                    try clear c15b0
                                                    try clear c15b1
                                                    try clear c15b2
                                                    try clear c18
                                                    try clear c18b0
                                                    try clear c18b1
                                                    try clear c18b2
                                                    try clear c19
                                                    try clear c19b0
                                                    try clear c19b1
                                                    try clear c19b2
                                                    try clear p19
                                                    try clear q19
                                                    try clear hx19
                                                    try clear p20
                                                    try clear q20
                                                    try clear hx20
                                                    try clear p21
                                                    try clear q21
                                                    try clear hx21
                                                    try clear c22
                                                    try clear c25
                                                    try clear c25b0
                                                    try clear c26
                                                    try clear c27
                                                    try clear c27b0
                                                    try clear c28
                                                    try clear c28b0
                                                    try clear c29
                                                    try clear c29b0
                                                    try clear c29b1
                                                    try clear c31
                                                    try clear c31b0
                                                    try clear c31b1
                                                    try clear c31b2
                                                    try clear c36
                                                    try clear c36b0
                                                    try clear c37
                                                    try clear c37b0
                                                    try clear c38
                                                    try clear c38b0
                                                    try clear c39
                                                    try clear c39b0
                                                    try clear c41
                                                    try clear c41b0
                                                    try clear c41b1
                                                    try clear c42
                                                    try clear c42b0
                                                    try clear c42b1
                                                    try clear c46
                                                    try clear c46b0
                                                    try clear c47
                                                    try clear c51
                                                    try clear c51b0
                                                    try clear c51b1
                                                    try clear c52
                                                    try clear c52b0
                                                    try clear c53
                                                    try clear c53b0
                                                    try clear hx195_0
                                                    try clear hx199_0
                                                    try clear hx202_0
                                                    try clear hx203_0
                                                    try clear hx204_0
                                                    try clear hx209_0
                                                    try clear hx216_0
                                                    try clear p1
                                                    try clear p19
                                                    try clear p195
                                                    try clear p199
                                                    try clear p2
                                                    try clear p20
                                                    try clear p202
                                                    try clear p203
                                                    try clear p204
                                                    try clear p209
                                                    try clear p216
                                                    try clear p6
                                                    try clear q1
                                                    try clear q19
                                                    try clear q195
                                                    try clear q199
                                                    try clear q2
                                                    try clear q20
                                                    try clear q202
                                                    try clear q203
                                                    try clear q204
                                                    try clear q209
                                                    try clear q216
                                                    obtain ⟨kq, x130_48, rfl, HA, HJ48, HO_89, HI212, HB⟩ := hcut
                                                    cases kq with
                                                    | zero => exact absurd HA.out (by simp [garretlaw01_NumBack.j7])
                                                    | succ kj48 =>
                                                      have H := HA.out
                                                      clear HA
                                                      simp only [garretlaw01_NumBack.j7] at H
                                                      by_cases c55 : x130_48 = true
                                                      · subst c55
                                                        have H1 : (some false) = some r := by rw [if_pos rfl] at H; exact H
                                                        clear H
                                                        have H := H1
                                                        clear H1
                                                        obtain rfl := Option.some.inj H
                                                        go_wp2
                                                        go_ret
                                                        exact ⟨by first | rfl | (simp [errW_none, errW_some] <;> rfl) | (simp only [← hji40]; first | rfl | (simp [errW_none, errW_some] <;> rfl)) | (simp [*, errW_none, errW_some] <;> rfl), by repeat (first | (with_reducible first | exact HB.out | apply below_alloc | apply pw_below_drewN | apply below_drew1 | refine below_set ?_ (IsS52.ge HI212.out)) | exact HB.out)⟩
                                                      · replace c55 := Bool.eq_false_iff.mpr c55
                                                        subst c55
                                                        have H1 : (if 0 ≤ x15_6 then (if x15_6 < (l0.length : Int) then (if (rd l0 x15_6) ≥ 0 then ((num_Reader_Short.f kj48 t214 t215 9223372036854775807).bind fun bt219 => (if (rd y206 x91_5) = 0 then (if bt219.1 = (rd l0 x15_6) then (garretlaw01_NumBack.l3 kj48 l0 l1 x5_3 (rd y206 x91_5) (wrap64 (x15_6 + 1)) y206 (y206.length : Int) x91_5 bt219.2.1 bt219.2.2) else (some false)) else (garretlaw01_NumBack.l3 kj48 l0 l1 x5_3 (rd y206 x91_5) (wrap64 (x15_6 + 1)) y206 (y206.length : Int) x91_5 bt219.2.1 bt219.2.2))) else (garretlaw01_NumBack.l3 kj48 l0 l1 x5_3 (rd y206 x91_5) (wrap64 (x15_6 + 1)) y206 (y206.length : Int) x91_5 t214 t215)) else (none)) else (none)) = some r := by rw [if_neg (show ¬ (false = true) by decide)] at H; exact H
                                                        clear H
                                                        have H := H1
                                                        clear H1
                                                        by_cases c56 : 0 ≤ x15_6
                                                        · rw [if_pos c56] at H
                                                          have c56b0 : decide (0 ≤ x15_6) = true := decide_eq_true c56
                                                          clear c56
                                                          by_cases c57 : x15_6 < (l0.length : Int)
                                                          · rw [if_pos c57] at H
                                                            have c57b0 : decide (x15_6 < (l0.length : Int)) = true := decide_eq_true c57
                                                            clear c57
                                                            by_cases c58 : (rd l0 x15_6) ≥ 0
                                                            · rw [if_pos c58] at H
                                                              have c58b0 : decide (0 ≤ (rd l0 x15_6)) = true := decide_eq_true c58
                                                              clear c58
                                                              replace H := Option.bind_eq_some_iff.mp H
                                                              obtain ⟨⟨t219, t220, t221⟩, A590, H⟩ := H
                                                              replace H : (if (rd y206 x91_5) = 0 then (if t219 = (rd l0 x15_6) then (garretlaw01_NumBack.l3 kj48 l0 l1 x5_3 (rd y206 x91_5) (wrap64 (x15_6 + 1)) y206 (y206.length : Int) x91_5 t220 t221) else (some false)) else (garretlaw01_NumBack.l3 kj48 l0 l1 x5_3 (rd y206 x91_5) (wrap64 (x15_6 + 1)) y206 (y206.length : Int) x91_5 t220 t221)) = some r := H
                                                              have A59 := Aside0.mk A590
                                                              clear A590
                                                              by_cases c60 : (rd y206 x91_5) = 0
                                                              · rw [if_pos c60] at H
                                                                have c60b0 : ((rd y206 x91_5) == 0) = true := beq_iff_eq.mpr c60
                                                                have c60b1 : ((rd y206 x91_5) != 0) = false := bne_eq_false_iff_eq.mpr c60
                                                                clear c60
                                                                by_cases c61 : t219 = (rd l0 x15_6)
                                                                · rw [if_pos c61] at H
                                                                  have c61b0 : (t219 == (rd l0 x15_6)) = true := beq_iff_eq.mpr c61
                                                                  have c61b1 : (t219 != (rd l0 x15_6)) = false := bne_eq_false_iff_eq.mpr c61
                                                                  clear c61
                                                                  have H' := Aside0.mk H
                                                                  clear H
                                                                  have p218 : 0 ≤ (x15_6 : Int) := of_decide_eq_true (by first | (with_reducible assumption) | assumption)
                                                                  have q218 : x15_6 < (l0.length : Int) := of_decide_eq_true (by first | (with_reducible assumption) | assumption)
                                                                  obtain ⟨ad218, e218, hx218_0⟩ := Kd.at_int HR0.out x15_6 p218 q218
                                                                  cases e218
                                                                  replace hx218_0 := (HB.out.cell (World.block_lt_of_cell? w _ hx218_0)).trans hx218_0
                                                                  replace p218 := eq_true p218
                                                                  replace q218 := eq_true q218
                                                                  go_wp2_with (first | ((with_reducible refine gate_callee (f := 16) rfl ?_); refine goesL_ (some 137) rfl rfl Try.func16 (by kernel_rfl) rfl #[.pointer (some ⟨g212, 0, none⟩), .int .i64 9223372036854775807] rfl (by (try simp only [List.map_toArray, List.map_cons, List.map_nil]); first | done | rfl | (simp only [List.length_drop, List.length_take]; rfl)) ?_; (with_reducible refine (num_Reader_Short.calls kj48 g212 t214 t215 9223372036854775807 t219 t220 t221 w _ ?side1 ?side2 A59.out).mono ?_); (case side1 => repeat (first | (with_reducible first | exact HI212.out | apply IsS52.alloc | apply IsS52.drewN | apply IsS52.drew | apply IsS52.set_0 | apply IsS52.set_1) | exact HI212.out)); (case side2 => repeat (first | (with_reducible first | exact HB.out | apply below_alloc | apply pw_below_drewN | apply below_drew1 | refine below_set ?_ (IsS52.ge HI212.out)) | exact HB.out)); rintro e w62 ⟨rfl, hi, hb, hk⟩; refine ⟨_, rfl, ?_⟩; have n0_ := Aside0.mk (Kd.R_mono (Kd.R_keep (IsS52.apart (show IsS52 w _ g212 t214 t215 from by repeat (first | (with_reducible first | exact HI212.out | apply IsS52.alloc | apply IsS52.drewN | apply IsS52.drew | apply IsS52.set_0 | apply IsS52.set_1) | exact HI212.out)) (by (with_reducible repeat (first | apply Kd.R_alloc | apply Kd.R_drewN | apply Kd.R_drew)); exact HO_89.out) (by decide)) hk (fun _ h => h.2)) (fun _ h => h.1)); have n1_ := Aside0.mk (hb); have n2_ := Aside0.mk (hi); clear HO_89; clear HB; clear HI212; have HO_89 := n0_; have HB := n1_; have HI212 := n2_; clear n0_ n1_ n2_; (try clear hb); (try clear hb2); (try clear hk); (try clear hi); have p222 : 0 ≤ (x15_6 : Int) := of_decide_eq_true (by first | (with_reducible assumption) | assumption); have q222 : x15_6 < (l0.length : Int) := of_decide_eq_true (by first | (with_reducible assumption) | assumption); obtain ⟨ad222, e222, hx222_0⟩ := Kd.at_int HR0.out x15_6 p222 q222; obtain rfl : ad218 = ad222 := (by injection e222); replace hx222_0 := (HB.out.cell (World.block_lt_of_cell? w _ hx222_0)).trans hx222_0; replace p222 := eq_true p222; replace q222 := eq_true q222))
                                                                  go_roundg kj48
                                                                  case measure => have := HK1.out; have := HJ5.out; have := HK3.out; have := HJ23.out; have := HK5.out; have := HK6.out; have := HJ44.out; have := HJ48.out; omega
                                                                  case rel => exact ⟨(wrap64 (x15_6 + 1)), (t220), (t221), (by first | rfl | (simp; done) | (simp [*]; done)), H', ⟨by have := HK1.out; have := HJ5.out; have := HK3.out; have := HJ23.out; have := HK5.out; have := HK6.out; have := HJ44.out; have := HJ48.out; omega⟩, ⟨by (with_reducible repeat (first | apply Kd.R_alloc | apply Kd.R_drewN | apply Kd.R_drew)); exact HO_89.out⟩, ⟨by repeat (first | (with_reducible first | exact HI212.out | apply IsS52.alloc | apply IsS52.drewN | apply IsS52.drew | apply IsS52.set_0 | apply IsS52.set_1) | exact HI212.out)⟩, ⟨by repeat (first | (with_reducible first | exact HB.out | apply below_alloc | apply pw_below_drewN | apply below_drew1 | refine below_set ?_ (IsS52.ge HI212.out)) | exact HB.out)⟩⟩
                                                                · rw [if_neg c61] at H
                                                                  have c61b0 : (t219 == (rd l0 x15_6)) = false := beq_eq_false_iff_ne.mpr c61
                                                                  have c61b1 : (t219 != (rd l0 x15_6)) = true := bne_iff_ne.mpr c61
                                                                  obtain rfl := Option.some.inj H
                                                                  have p218 : 0 ≤ (x15_6 : Int) := of_decide_eq_true (by first | (with_reducible assumption) | assumption)
                                                                  have q218 : x15_6 < (l0.length : Int) := of_decide_eq_true (by first | (with_reducible assumption) | assumption)
                                                                  obtain ⟨ad218, e218, hx218_0⟩ := Kd.at_int HR0.out x15_6 p218 q218
                                                                  cases e218
                                                                  replace hx218_0 := (HB.out.cell (World.block_lt_of_cell? w _ hx218_0)).trans hx218_0
                                                                  replace p218 := eq_true p218
                                                                  replace q218 := eq_true q218
                                                                  go_wp2_with (first | ((with_reducible refine gate_callee (f := 16) rfl ?_); refine goesL_ (some 137) rfl rfl Try.func16 (by kernel_rfl) rfl #[.pointer (some ⟨g212, 0, none⟩), .int .i64 9223372036854775807] rfl (by (try simp only [List.map_toArray, List.map_cons, List.map_nil]); first | done | rfl | (simp only [List.length_drop, List.length_take]; rfl)) ?_; (with_reducible refine (num_Reader_Short.calls kj48 g212 t214 t215 9223372036854775807 t219 t220 t221 w _ ?side1 ?side2 A59.out).mono ?_); (case side1 => repeat (first | (with_reducible first | exact HI212.out | apply IsS52.alloc | apply IsS52.drewN | apply IsS52.drew | apply IsS52.set_0 | apply IsS52.set_1) | exact HI212.out)); (case side2 => repeat (first | (with_reducible first | exact HB.out | apply below_alloc | apply pw_below_drewN | apply below_drew1 | refine below_set ?_ (IsS52.ge HI212.out)) | exact HB.out)); rintro e w63 ⟨rfl, hi, hb, hk⟩; refine ⟨_, rfl, ?_⟩; have n0_ := Aside0.mk (Kd.R_mono (Kd.R_keep (IsS52.apart (show IsS52 w _ g212 t214 t215 from by repeat (first | (with_reducible first | exact HI212.out | apply IsS52.alloc | apply IsS52.drewN | apply IsS52.drew | apply IsS52.set_0 | apply IsS52.set_1) | exact HI212.out)) (by (with_reducible repeat (first | apply Kd.R_alloc | apply Kd.R_drewN | apply Kd.R_drew)); exact HO_89.out) (by decide)) hk (fun _ h => h.2)) (fun _ h => h.1)); have n1_ := Aside0.mk (hb); have n2_ := Aside0.mk (hi); clear HO_89; clear HB; clear HI212; have HO_89 := n0_; have HB := n1_; have HI212 := n2_; clear n0_ n1_ n2_; (try clear hb); (try clear hb2); (try clear hk); (try clear hi); have p222 : 0 ≤ (x15_6 : Int) := of_decide_eq_true (by first | (with_reducible assumption) | assumption); have q222 : x15_6 < (l0.length : Int) := of_decide_eq_true (by first | (with_reducible assumption) | assumption); obtain ⟨ad222, e222, hx222_0⟩ := Kd.at_int HR0.out x15_6 p222 q222; obtain rfl : ad218 = ad222 := (by injection e222); replace hx222_0 := (HB.out.cell (World.block_lt_of_cell? w _ hx222_0)).trans hx222_0; replace p222 := eq_true p222; replace q222 := eq_true q222))
                                                                  go_ret
                                                                  exact ⟨by first | rfl | (simp [errW_none, errW_some] <;> rfl) | (simp only [← hji40]; first | rfl | (simp [errW_none, errW_some] <;> rfl)) | (simp [*, errW_none, errW_some] <;> rfl), by repeat (first | (with_reducible first | exact HB.out | apply below_alloc | apply pw_below_drewN | apply below_drew1 | refine below_set ?_ (IsS52.ge HI212.out)) | exact HB.out)⟩
                                                              · rw [if_neg c60] at H
                                                                have c60b0 : ((rd y206 x91_5) == 0) = false := beq_eq_false_iff_ne.mpr c60
                                                                have c60b1 : ((rd y206 x91_5) != 0) = true := bne_iff_ne.mpr c60
                                                                have H' := Aside0.mk H
                                                                clear H
                                                                have p218 : 0 ≤ (x15_6 : Int) := of_decide_eq_true (by first | (with_reducible assumption) | assumption)
                                                                have q218 : x15_6 < (l0.length : Int) := of_decide_eq_true (by first | (with_reducible assumption) | assumption)
                                                                obtain ⟨ad218, e218, hx218_0⟩ := Kd.at_int HR0.out x15_6 p218 q218
                                                                cases e218
                                                                replace hx218_0 := (HB.out.cell (World.block_lt_of_cell? w _ hx218_0)).trans hx218_0
                                                                replace p218 := eq_true p218
                                                                replace q218 := eq_true q218
                                                                go_wp2_with (first | ((with_reducible refine gate_callee (f := 16) rfl ?_); refine goesL_ (some 137) rfl rfl Try.func16 (by kernel_rfl) rfl #[.pointer (some ⟨g212, 0, none⟩), .int .i64 9223372036854775807] rfl (by (try simp only [List.map_toArray, List.map_cons, List.map_nil]); first | done | rfl | (simp only [List.length_drop, List.length_take]; rfl)) ?_; (with_reducible refine (num_Reader_Short.calls kj48 g212 t214 t215 9223372036854775807 t219 t220 t221 w _ ?side1 ?side2 A59.out).mono ?_); (case side1 => repeat (first | (with_reducible first | exact HI212.out | apply IsS52.alloc | apply IsS52.drewN | apply IsS52.drew | apply IsS52.set_0 | apply IsS52.set_1) | exact HI212.out)); (case side2 => repeat (first | (with_reducible first | exact HB.out | apply below_alloc | apply pw_below_drewN | apply below_drew1 | refine below_set ?_ (IsS52.ge HI212.out)) | exact HB.out)); rintro e w64 ⟨rfl, hi, hb, hk⟩; refine ⟨_, rfl, ?_⟩; have n0_ := Aside0.mk (Kd.R_mono (Kd.R_keep (IsS52.apart (show IsS52 w _ g212 t214 t215 from by repeat (first | (with_reducible first | exact HI212.out | apply IsS52.alloc | apply IsS52.drewN | apply IsS52.drew | apply IsS52.set_0 | apply IsS52.set_1) | exact HI212.out)) (by (with_reducible repeat (first | apply Kd.R_alloc | apply Kd.R_drewN | apply Kd.R_drew)); exact HO_89.out) (by decide)) hk (fun _ h => h.2)) (fun _ h => h.1)); have n1_ := Aside0.mk (hb); have n2_ := Aside0.mk (hi); clear HO_89; clear HB; clear HI212; have HO_89 := n0_; have HB := n1_; have HI212 := n2_; clear n0_ n1_ n2_; (try clear hb); (try clear hb2); (try clear hk); (try clear hi)))
                                                                go_roundg kj48
                                                                case measure => have := HK1.out; have := HJ5.out; have := HK3.out; have := HJ23.out; have := HK5.out; have := HK6.out; have := HJ44.out; have := HJ48.out; omega
                                                                case rel => exact ⟨(wrap64 (x15_6 + 1)), (t220), (t221), (by first | rfl | (simp; done) | (simp [*]; done)), H', ⟨by have := HK1.out; have := HJ5.out; have := HK3.out; have := HJ23.out; have := HK5.out; have := HK6.out; have := HJ44.out; have := HJ48.out; omega⟩, ⟨by (with_reducible repeat (first | apply Kd.R_alloc | apply Kd.R_drewN | apply Kd.R_drew)); exact HO_89.out⟩, ⟨by repeat (first | (with_reducible first | exact HI212.out | apply IsS52.alloc | apply IsS52.drewN | apply IsS52.drew | apply IsS52.set_0 | apply IsS52.set_1) | exact HI212.out)⟩, ⟨by repeat (first | (with_reducible first | exact HB.out | apply below_alloc | apply pw_below_drewN | apply below_drew1 | refine below_set ?_ (IsS52.ge HI212.out)) | exact HB.out)⟩⟩
                                                            · rw [if_neg c58] at H
                                                              have c58b0 : decide (0 ≤ (rd l0 x15_6)) = false := decide_eq_false c58
                                                              clear c58
                                                              have H' := Aside0.mk H
                                                              clear H
                                                              have p218 : 0 ≤ (x15_6 : Int) := of_decide_eq_true (by first | (with_reducible assumption) | assumption)
                                                              have q218 : x15_6 < (l0.length : Int) := of_decide_eq_true (by first | (with_reducible assumption) | assumption)
                                                              obtain ⟨ad218, e218, hx218_0⟩ := Kd.at_int HR0.out x15_6 p218 q218
                                                              cases e218
                                                              replace hx218_0 := (HB.out.cell (World.block_lt_of_cell? w _ hx218_0)).trans hx218_0
                                                              replace p218 := eq_true p218
                                                              replace q218 := eq_true q218
                                                              go_wp2
                                                              go_roundg kj48
                                                              case measure => have := HK1.out; have := HJ5.out; have := HK3.out; have := HJ23.out; have := HK5.out; have := HK6.out; have := HJ44.out; have := HJ48.out; omega
                                                              case rel => exact ⟨(wrap64 (x15_6 + 1)), (t214), (t215), (by first | rfl | (simp; done) | (simp [*]; done)), H', ⟨by have := HK1.out; have := HJ5.out; have := HK3.out; have := HJ23.out; have := HK5.out; have := HK6.out; have := HJ44.out; have := HJ48.out; omega⟩, ⟨by (with_reducible repeat (first | apply Kd.R_alloc | apply Kd.R_drewN | apply Kd.R_drew)); exact HO_89.out⟩, ⟨by repeat (first | (with_reducible first | exact HI212.out | apply IsS52.alloc | apply IsS52.drewN | apply IsS52.drew | apply IsS52.set_0 | apply IsS52.set_1) | exact HI212.out)⟩, ⟨by repeat (first | (with_reducible first | exact HB.out | apply below_alloc | apply pw_below_drewN | apply below_drew1 | refine below_set ?_ (IsS52.ge HI212.out)) | exact HB.out)⟩⟩
                                                          · rw [if_neg c57] at H
                                                            exact absurd H (by simp)
                                                        · rw [if_neg c56] at H
                                                          exact absurd H (by simp)
                                                · replace c47 := Bool.eq_false_iff.mpr c47
                                                  subst c47
                                                  have H1 : (garretlaw01_NumBack.l4 kj44 l0 l1 x5_3 (rd y206 x91_5) 0 y206 (y206.length : Int) x91_5 x213000_6 x213001_6) = some r := by rw [if_neg (show ¬ (false = true) by decide)] at H; exact H
                                                  clear H
                                                  have H := H1
                                                  clear H1
                                                  have H' := Aside0.mk H
                                                  clear H
                                                  go_wp2
                                                  go_loopg [18] kj44 (fun kq v18 w' => ∃ (x18_8 : Int) (x213000_8 : ByteArray) (x213001_8 : Int), v18 = .int .i64 x18_8 ∧ Aside0 (garretlaw01_NumBack.l4 kq l0 l1 x5_3 (rd y206 x91_5) x18_8 y206 (y206.length : Int) x91_5 x213000_8 x213001_8 = some r) ∧ Aside0 (kq ≤ kj44) ∧ Aside0 (Kd.R (Kd.int .i64) 3 w' w.heap.size (fun _ => True) (.slice (some ad209) y206.length co35) y206) ∧ Aside0 (IsS52 w w' g212 x213000_8 x213001_8) ∧ Aside0 (Below w.heap.size w w'))
                                                  case atStart => exact ⟨(0), (x213000_6), (x213001_6), (by first | rfl | (simp; done) | (simp [*]; done)), H', ⟨Nat.le_refl _⟩, ⟨by (with_reducible repeat (first | apply Kd.R_alloc | apply Kd.R_drewN | apply Kd.R_drew)); exact HO_89.out⟩, ⟨by repeat (first | (with_reducible first | exact HI212.out | apply IsS52.alloc | apply IsS52.drewN | apply IsS52.drew | apply IsS52.set_0 | apply IsS52.set_1) | exact HI212.out)⟩, ⟨by repeat (first | (with_reducible first | exact HB.out | apply below_alloc | apply pw_below_drewN | apply below_drew1 | refine below_set ?_ (IsS52.ge HI212.out)) | exact HB.out)⟩⟩
                                                  case round =>
                                                    clear H'
                                                    try clear c1
                                                    try clear p1
                                                    try clear q1
                                                    try clear hx1
                                                    try clear c2
                                                    try clear p2
                                                    try clear q2
                                                    try clear hx2
                                                    try clear c3
                                                    try clear c4
                                                    try clear c5
                                                    try clear c6
                                                    try clear p6
                                                    try clear c7
                                                    try clear c7b0
                                                    try clear c8
                                                    try clear c9
                                                    try clear c9b0
                                                    try clear c10
                                                    try clear c10b0
                                                    try clear c12
                                                    try clear c14
                                                    try clear c14b0
                                                    try clear c14b1
                                                    try clear c15
                                                    try clear c15b0
                                                    try clear c15b1
                                                    try clear c15b2
                                                    try clear c16
                                                    try clear c18
                                                    try clear c18b0
                                                    try clear c18b1
                                                    try clear c18b2
                                                    try clear c19
                                                    try clear c19b0
                                                    try clear c19b1
                                                    try clear c19b2
                                                    try clear p19
                                                    try clear q19
                                                    try clear hx19
                                                    try clear p20
                                                    try clear q20
                                                    try clear hx20
                                                    try clear p21
                                                    try clear q21
                                                    try clear hx21
                                                    try clear c22
                                                    try clear p22
                                                    try clear q22
                                                    try clear hx22
                                                    try clear c25
                                                    try clear c25b0
                                                    try clear c26
                                                    try clear c27
                                                    try clear c27b0
                                                    try clear c28
                                                    try clear c28b0
                                                    try clear c29
                                                    try clear c29b0
                                                    try clear c29b1
                                                    try clear c31
                                                    try clear c31b0
                                                    try clear c31b1
                                                    try clear c31b2
                                                    try clear c36
                                                    try clear c36b0
                                                    try clear c37
                                                    try clear c37b0
                                                    try clear c38
                                                    try clear c38b0
                                                    try clear c39
                                                    try clear c39b0
                                                    try clear c41
                                                    try clear c41b0
                                                    try clear c41b1
                                                    try clear c42
                                                    try clear c42b0
                                                    try clear c42b1
                                                    try clear c46
                                                    try clear c46b0
                                                    try clear c47
                                                    try clear c51
                                                    try clear c51b0
                                                    try clear c51b1
                                                    try clear c52
                                                    try clear c52b0
                                                    try clear c53
                                                    try clear c53b0
                                                    try clear c55
                                                    try clear c56
                                                    try clear c56b0
                                                    try clear c57
                                                    try clear c57b0
                                                    try clear c58
                                                    try clear c58b0
                                                    try clear c60
                                                    try clear c60b0
                                                    try clear c60b1
                                                    try clear c61
                                                    try clear c61b0
                                                    try clear c61b1
                                                    try clear p64
                                                    try clear hx195_0
                                                    try clear hx199_0
                                                    try clear hx202_0
                                                    try clear hx203_0
                                                    try clear hx204_0
                                                    try clear hx209_0
                                                    try clear hx216_0
                                                    try clear hx218_0
                                                    try clear hx222_0
                                                    try clear p1
                                                    try clear p19
                                                    try clear p195
                                                    try clear p199
                                                    try clear p2
                                                    try clear p20
                                                    try clear p202
                                                    try clear p203
                                                    try clear p204
                                                    try clear p209
                                                    try clear p21
                                                    try clear p216
                                                    try clear p218
                                                    try clear p222
                                                    try clear p6
                                                    try clear q1
                                                    try clear q19
                                                    try clear q195
                                                    try clear q199
                                                    try clear q2
                                                    try clear q20
                                                    try clear q202
                                                    try clear q203
                                                    try clear q204
                                                    try clear q209
                                                    try clear q21
                                                    try clear q216
                                                    try clear q218
                                                    try clear q222
                                                    obtain ⟨x18_8, x213000_8, x213001_8, rfl, HA, HK8, HO_89, HI212, HB⟩ := hrel
                                                    cases gk with
                                                    | zero => exact absurd HA.out (by simp [garretlaw01_NumBack.l4])
                                                    | succ k8 =>
                                                      have H := HA.out
                                                      clear HA
                                                      simp only [garretlaw01_NumBack.l4] at H
                                                      have HC65 := Aside0.mk H
                                                      clear H
                                                      go_upto_region 36 with (fail)
                                                      go_cut [155] (fun v155 wc => ∃ (kq : Nat) (x155_64 : Bool), v155 = .bool x155_64 ∧ Aside0 (garretlaw01_NumBack.j9 kq l0 l1 x5_3 (rd y206 x91_5) x18_8 y206 (y206.length : Int) x91_5 x155_64 x213000_8 x213001_8 = some r) ∧ Aside0 (kq ≤ k8) ∧ Aside0 (Kd.R (Kd.int .i64) 3 wc w.heap.size (fun _ => True) (.slice (some ad209) y206.length co35) y206) ∧ Aside0 (IsS52 w wc g212 x213000_8 x213001_8) ∧ Aside0 (Below w.heap.size w wc))
                                                      case first =>
                                                        have H := HC65.out
                                                        clear HC65
                                                        by_cases c66 : x18_8 < (l1.length : Int)
                                                        · rw [if_pos c66] at H
                                                          have c66b0 : decide (x18_8 < (l1.length : Int)) = true := decide_eq_true c66
                                                          clear c66
                                                          (first | rw [c66b0] | (simp only [i64_w, i32_w]; rw [c66b0]) | skip)
                                                          have H' := Aside0.mk H
                                                          clear H
                                                          go_wp2
                                                          go_meet
                                                          case rel => exact ⟨_, (decide (x18_8 < 30)), (by first | rfl | (simp; done) | (simp [*]; done)), H', ⟨by have := HK1.out; have := HJ5.out; have := HK3.out; have := HJ23.out; have := HK5.out; have := HK6.out; have := HJ44.out; have := HK8.out; first | omega | exact Nat.le_refl _⟩, ⟨by (with_reducible repeat (first | apply Kd.R_alloc | apply Kd.R_drewN | apply Kd.R_drew)); exact HO_89.out⟩, ⟨by repeat (first | (with_reducible first | exact HI212.out | apply IsS52.alloc | apply IsS52.drewN | apply IsS52.drew | apply IsS52.set_0 | apply IsS52.set_1) | exact HI212.out)⟩, ⟨by repeat (first | (with_reducible first | exact HB.out | apply below_alloc | apply pw_below_drewN | apply below_drew1 | refine below_set ?_ (IsS52.ge HI212.out)) | exact HB.out)⟩⟩
                                                        · rw [if_neg c66] at H
                                                          have c66b0 : decide (x18_8 < (l1.length : Int)) = false := decide_eq_false c66
                                                          clear c66
                                                          (first | rw [c66b0] | (simp only [i64_w, i32_w]; rw [c66b0]) | skip)
                                                          have H' := Aside0.mk H
                                                          clear H
                                                          go_wp2
                                                          go_meet
                                                          case rel => exact ⟨_, (false), (by first | rfl | (simp; done) | (simp [*]; done)), H', ⟨by have := HK1.out; have := HJ5.out; have := HK3.out; have := HJ23.out; have := HK5.out; have := HK6.out; have := HJ44.out; have := HK8.out; first | omega | exact Nat.le_refl _⟩, ⟨by (with_reducible repeat (first | apply Kd.R_alloc | apply Kd.R_drewN | apply Kd.R_drew)); exact HO_89.out⟩, ⟨by repeat (first | (with_reducible first | exact HI212.out | apply IsS52.alloc | apply IsS52.drewN | apply IsS52.drew | apply IsS52.set_0 | apply IsS52.set_1) | exact HI212.out)⟩, ⟨by repeat (first | (with_reducible first | exact HB.out | apply below_alloc | apply pw_below_drewN | apply below_drew1 | refine below_set ?_ (IsS52.ge HI212.out)) | exact HB.out)⟩⟩
                                                      case rest =>
                                                        clear HC65
                                                        try clear c1
                                                        try clear p1
                                                        try clear q1
                                                        try clear hx1
                                                        try clear c2
                                                        try clear p2
                                                        try clear q2
                                                        try clear hx2
                                                        try clear c3
                                                        try clear c4
                                                        try clear c5
                                                        try clear c6
                                                        try clear p6
                                                        try clear c7
                                                        try clear c7b0
                                                        try clear c8
                                                        try clear c9
                                                        try clear c9b0
                                                        try clear c10
                                                        try clear c10b0
                                                        try clear c12
                                                        try clear c14
                                                        try clear c14b0
                                                        try clear c14b1
                                                        try clear c15
                                                        try clear c15b0
                                                        try clear c15b1
                                                        try clear c15b2
                                                        try clear c16
                                                        try clear c18
                                                        try clear c18b0
                                                        try clear c18b1
                                                        try clear c18b2
                                                        try clear c19
                                                        try clear c19b0
                                                        try clear c19b1
                                                        try clear c19b2
                                                        try clear p19
                                                        try clear q19
                                                        try clear hx19
                                                        try clear p20
                                                        try clear q20
                                                        try clear hx20
                                                        try clear p21
                                                        try clear q21
                                                        try clear hx21
                                                        try clear c22
                                                        try clear p22
                                                        try clear q22
                                                        try clear hx22
                                                        try clear c25
                                                        try clear c25b0
                                                        try clear c26
                                                        try clear c27
                                                        try clear c27b0
                                                        try clear c28
                                                        try clear c28b0
                                                        try clear c29
                                                        try clear c29b0
                                                        try clear c29b1
                                                        try clear c31
                                                        try clear c31b0
                                                        try clear c31b1
                                                        try clear c31b2
                                                        try clear c36
                                                        try clear c36b0
                                                        try clear c37
                                                        try clear c37b0
                                                        try clear c38
                                                        try clear c38b0
                                                        try clear c39
                                                        try clear c39b0
                                                        try clear c41
                                                        try clear c41b0
                                                        try clear c41b1
                                                        try clear c42
                                                        try clear c42b0
                                                        try clear c42b1
                                                        try clear c46
                                                        try clear c46b0
                                                        try clear c47
                                                        try clear c51
                                                        try clear c51b0
                                                        try clear c51b1
                                                        try clear c52
                                                        try clear c52b0
                                                        try clear c53
                                                        try clear c53b0
                                                        try clear c55
                                                        try clear c56
                                                        try clear c56b0
                                                        try clear c57
                                                        try clear c57b0
                                                        try clear c58
                                                        try clear c58b0
                                                        try clear c60
                                                        try clear c60b0
                                                        try clear c60b1
                                                        try clear c61
                                                        try clear c61b0
                                                        try clear c61b1
                                                        try clear p64
                                                        try clear c66
                                                        try clear c66b0
                                                        try clear hx195_0
                                                        try clear hx199_0
                                                        try clear hx202_0
                                                        try clear hx203_0
                                                        try clear hx204_0
                                                        try clear hx209_0
                                                        try clear hx216_0
                                                        try clear hx218_0
                                                        try clear hx222_0
                                                        try clear p1
                                                        try clear p19
                                                        try clear p195
                                                        try clear p199
                                                        try clear p2
                                                        try clear p20
                                                        try clear p202
                                                        try clear p203
                                                        try clear p204
                                                        try clear p209
                                                        try clear p21
                                                        try clear p216
                                                        try clear p218
                                                        try clear p22
                                                        try clear p222
                                                        try clear p6
                                                        try clear p64
                                                        try clear q1
                                                        try clear q19
                                                        try clear q195
                                                        try clear q199
                                                        try clear q2
                                                        try clear q20
                                                        try clear q202
                                                        try clear q203
                                                        try clear q204
                                                        try clear q209
                                                        try clear q21
                                                        try clear q216
                                                        try clear q218
                                                        try clear q22
                                                        try clear q222
                                                        obtain ⟨kq, x155_64, rfl, HA, HJ64, HO_89, HI212, HB⟩ := hcut
                                                        cases kq with
                                                        | zero => exact absurd HA.out (by simp [garretlaw01_NumBack.j9])
                                                        | succ kj64 =>
                                                          have H := HA.out
                                                          clear HA
                                                          simp only [garretlaw01_NumBack.j9] at H
                                                          by_cases c67 : x155_64 = true
                                                          · subst c67
                                                            have H1 : (if 0 ≤ x18_8 then (if x18_8 < (l1.length : Int) then (if ((rdOf ByteArray.empty l1 x18_8).size : Int) ≤ 500 then ((num_Reader_Text.f kj64 x213000_8 x213001_8 500).bind fun bt224 => (if (rd y206 x91_5) = 0 then (if bt224.1.toList = (rdOf ByteArray.empty l1 x18_8).toList then (garretlaw01_NumBack.l4 kj64 l0 l1 x5_3 (rd y206 x91_5) (wrap64 (x18_8 + 1)) y206 (y206.length : Int) x91_5 bt224.2.1 bt224.2.2) else (some false)) else (garretlaw01_NumBack.l4 kj64 l0 l1 x5_3 (rd y206 x91_5) (wrap64 (x18_8 + 1)) y206 (y206.length : Int) x91_5 bt224.2.1 bt224.2.2))) else (garretlaw01_NumBack.l4 kj64 l0 l1 x5_3 (rd y206 x91_5) (wrap64 (x18_8 + 1)) y206 (y206.length : Int) x91_5 x213000_8 x213001_8)) else (none)) else (none)) = some r := by rw [if_pos rfl] at H; exact H
                                                            clear H
                                                            have H := H1
                                                            clear H1
                                                            by_cases c68 : 0 ≤ x18_8
                                                            · rw [if_pos c68] at H
                                                              have c68b0 : decide (0 ≤ x18_8) = true := decide_eq_true c68
                                                              clear c68
                                                              by_cases c69 : x18_8 < (l1.length : Int)
                                                              · rw [if_pos c69] at H
                                                                have c69b0 : decide (x18_8 < (l1.length : Int)) = true := decide_eq_true c69
                                                                clear c69
                                                                by_cases c70 : ((rdOf ByteArray.empty l1 x18_8).size : Int) ≤ 500
                                                                · rw [if_pos c70] at H
                                                                  have c70b0 : decide (((rdOf ByteArray.empty l1 x18_8).size : Int) ≤ 500) = true := decide_eq_true c70
                                                                  have c70b1 : decide ((rdOf ByteArray.empty l1 x18_8).size ≤ 500) = true := decide_eq_true (by omega)
                                                                  clear c70
                                                                  replace H := Option.bind_eq_some_iff.mp H
                                                                  obtain ⟨⟨t224, t225, t226⟩, A710, H⟩ := H
                                                                  replace H : (if (rd y206 x91_5) = 0 then (if t224.toList = (rdOf ByteArray.empty l1 x18_8).toList then (garretlaw01_NumBack.l4 kj64 l0 l1 x5_3 (rd y206 x91_5) (wrap64 (x18_8 + 1)) y206 (y206.length : Int) x91_5 t225 t226) else (some false)) else (garretlaw01_NumBack.l4 kj64 l0 l1 x5_3 (rd y206 x91_5) (wrap64 (x18_8 + 1)) y206 (y206.length : Int) x91_5 t225 t226)) = some r := H
                                                                  have A71 := Aside0.mk A710
                                                                  clear A710
                                                                  by_cases c72 : (rd y206 x91_5) = 0
                                                                  · rw [if_pos c72] at H
                                                                    have c72b0 : ((rd y206 x91_5) == 0) = true := beq_iff_eq.mpr c72
                                                                    have c72b1 : ((rd y206 x91_5) != 0) = false := bne_eq_false_iff_eq.mpr c72
                                                                    clear c72
                                                                    by_cases c73 : t224.toList = (rdOf ByteArray.empty l1 x18_8).toList
                                                                    · rw [if_pos c73] at H
                                                                      have c73b0 : (t224.toList == (rdOf ByteArray.empty l1 x18_8).toList) = true := beq_iff_eq.mpr c73
                                                                      have c73b1 : (t224.toList != (rdOf ByteArray.empty l1 x18_8).toList) = false := bne_eq_false_iff_eq.mpr c73
                                                                      clear c73
                                                                      have H' := Aside0.mk H
                                                                      clear H
                                                                      have p223 : 0 ≤ (x18_8 : Int) := of_decide_eq_true (by first | (with_reducible assumption) | assumption)
                                                                      have q223 : x18_8 < (l1.length : Int) := of_decide_eq_true (by first | (with_reducible assumption) | assumption)
                                                                      obtain ⟨ad223, e223, hx223_0⟩ := Kd.at_string HR1.out x18_8 p223 q223
                                                                      cases e223
                                                                      replace hx223_0 := (HB.out.cell (World.block_lt_of_cell? w _ hx223_0)).trans hx223_0
                                                                      replace p223 := eq_true p223
                                                                      replace q223 := eq_true q223
                                                                      go_wp2_with (first | ((with_reducible refine gate_callee (f := 23) rfl ?_); refine goesL_ (some 165) rfl rfl Try.func23 (by kernel_rfl) rfl #[.pointer (some ⟨g212, 0, none⟩), .int .i64 500] rfl (by (try simp only [List.map_toArray, List.map_cons, List.map_nil]); first | done | rfl | (simp only [List.length_drop, List.length_take]; rfl)) ?_; (with_reducible refine (num_Reader_Text.calls kj64 g212 x213000_8 x213001_8 500 t224 t225 t226 w _ ?side1 ?side2 A71.out).mono ?_); (case side1 => repeat (first | (with_reducible first | exact HI212.out | apply IsS52.alloc | apply IsS52.drewN | apply IsS52.drew | apply IsS52.set_0 | apply IsS52.set_1) | exact HI212.out)); (case side2 => repeat (first | (with_reducible first | exact HB.out | apply below_alloc | apply pw_below_drewN | apply below_drew1 | refine below_set ?_ (IsS52.ge HI212.out)) | exact HB.out)); rintro e w74 ⟨rfl, hi, hb, hk⟩; refine ⟨_, rfl, ?_⟩; have n0_ := Aside0.mk (Kd.R_mono (Kd.R_keep (IsS52.apart (show IsS52 w _ g212 x213000_8 x213001_8 from by repeat (first | (with_reducible first | exact HI212.out | apply IsS52.alloc | apply IsS52.drewN | apply IsS52.drew | apply IsS52.set_0 | apply IsS52.set_1) | exact HI212.out)) (by (with_reducible repeat (first | apply Kd.R_alloc | apply Kd.R_drewN | apply Kd.R_drew)); exact HO_89.out) (by decide)) hk (fun _ h => h.2)) (fun _ h => h.1)); have n1_ := Aside0.mk (hb); have n2_ := Aside0.mk (hi); clear HO_89; clear HB; clear HI212; have HO_89 := n0_; have HB := n1_; have HI212 := n2_; clear n0_ n1_ n2_; (try clear hb); (try clear hb2); (try clear hk); (try clear hi); have p227 : 0 ≤ (x18_8 : Int) := of_decide_eq_true (by first | (with_reducible assumption) | assumption); have q227 : x18_8 < (l1.length : Int) := of_decide_eq_true (by first | (with_reducible assumption) | assumption); obtain ⟨ad227, e227, hx227_0⟩ := Kd.at_string HR1.out x18_8 p227 q227; obtain rfl : ad223 = ad227 := (by injection e227); replace hx227_0 := (HB.out.cell (World.block_lt_of_cell? w _ hx227_0)).trans hx227_0; replace p227 := eq_true p227; replace q227 := eq_true q227))
                                                                      go_roundg kj64
                                                                      case measure => have := HK1.out; have := HJ5.out; have := HK3.out; have := HJ23.out; have := HK5.out; have := HK6.out; have := HJ44.out; have := HK8.out; have := HJ64.out; omega
                                                                      case rel => exact ⟨(wrap64 (x18_8 + 1)), (t225), (t226), (by first | rfl | (simp; done) | (simp [*]; done)), H', ⟨by have := HK1.out; have := HJ5.out; have := HK3.out; have := HJ23.out; have := HK5.out; have := HK6.out; have := HJ44.out; have := HK8.out; have := HJ64.out; omega⟩, ⟨by (with_reducible repeat (first | apply Kd.R_alloc | apply Kd.R_drewN | apply Kd.R_drew)); exact HO_89.out⟩, ⟨by repeat (first | (with_reducible first | exact HI212.out | apply IsS52.alloc | apply IsS52.drewN | apply IsS52.drew | apply IsS52.set_0 | apply IsS52.set_1) | exact HI212.out)⟩, ⟨by repeat (first | (with_reducible first | exact HB.out | apply below_alloc | apply pw_below_drewN | apply below_drew1 | refine below_set ?_ (IsS52.ge HI212.out)) | exact HB.out)⟩⟩
                                                                    · rw [if_neg c73] at H
                                                                      have c73b0 : (t224.toList == (rdOf ByteArray.empty l1 x18_8).toList) = false := beq_eq_false_iff_ne.mpr c73
                                                                      have c73b1 : (t224.toList != (rdOf ByteArray.empty l1 x18_8).toList) = true := bne_iff_ne.mpr c73
                                                                      obtain rfl := Option.some.inj H
                                                                      have p223 : 0 ≤ (x18_8 : Int) := of_decide_eq_true (by first | (with_reducible assumption) | assumption)
                                                                      have q223 : x18_8 < (l1.length : Int) := of_decide_eq_true (by first | (with_reducible assumption) | assumption)
                                                                      obtain ⟨ad223, e223, hx223_0⟩ := Kd.at_string HR1.out x18_8 p223 q223
                                                                      cases e223
                                                                      replace hx223_0 := (HB.out.cell (World.block_lt_of_cell? w _ hx223_0)).trans hx223_0
                                                                      replace p223 := eq_true p223
                                                                      replace q223 := eq_true q223
                                                                      go_wp2_with (first | ((with_reducible refine gate_callee (f := 23) rfl ?_); refine goesL_ (some 165) rfl rfl Try.func23 (by kernel_rfl) rfl #[.pointer (some ⟨g212, 0, none⟩), .int .i64 500] rfl (by (try simp only [List.map_toArray, List.map_cons, List.map_nil]); first | done | rfl | (simp only [List.length_drop, List.length_take]; rfl)) ?_; (with_reducible refine (num_Reader_Text.calls kj64 g212 x213000_8 x213001_8 500 t224 t225 t226 w _ ?side1 ?side2 A71.out).mono ?_); (case side1 => repeat (first | (with_reducible first | exact HI212.out | apply IsS52.alloc | apply IsS52.drewN | apply IsS52.drew | apply IsS52.set_0 | apply IsS52.set_1) | exact HI212.out)); (case side2 => repeat (first | (with_reducible first | exact HB.out | apply below_alloc | apply pw_below_drewN | apply below_drew1 | refine below_set ?_ (IsS52.ge HI212.out)) | exact HB.out)); rintro e w75 ⟨rfl, hi, hb, hk⟩; refine ⟨_, rfl, ?_⟩; have n0_ := Aside0.mk (Kd.R_mono (Kd.R_keep (IsS52.apart (show IsS52 w _ g212 x213000_8 x213001_8 from by repeat (first | (with_reducible first | exact HI212.out | apply IsS52.alloc | apply IsS52.drewN | apply IsS52.drew | apply IsS52.set_0 | apply IsS52.set_1) | exact HI212.out)) (by (with_reducible repeat (first | apply Kd.R_alloc | apply Kd.R_drewN | apply Kd.R_drew)); exact HO_89.out) (by decide)) hk (fun _ h => h.2)) (fun _ h => h.1)); have n1_ := Aside0.mk (hb); have n2_ := Aside0.mk (hi); clear HO_89; clear HB; clear HI212; have HO_89 := n0_; have HB := n1_; have HI212 := n2_; clear n0_ n1_ n2_; (try clear hb); (try clear hb2); (try clear hk); (try clear hi); have p227 : 0 ≤ (x18_8 : Int) := of_decide_eq_true (by first | (with_reducible assumption) | assumption); have q227 : x18_8 < (l1.length : Int) := of_decide_eq_true (by first | (with_reducible assumption) | assumption); obtain ⟨ad227, e227, hx227_0⟩ := Kd.at_string HR1.out x18_8 p227 q227; obtain rfl : ad223 = ad227 := (by injection e227); replace hx227_0 := (HB.out.cell (World.block_lt_of_cell? w _ hx227_0)).trans hx227_0; replace p227 := eq_true p227; replace q227 := eq_true q227))
                                                                      go_ret
                                                                      exact ⟨by first | rfl | (simp [errW_none, errW_some] <;> rfl) | (simp only [← hji40]; first | rfl | (simp [errW_none, errW_some] <;> rfl)) | (simp [*, errW_none, errW_some] <;> rfl), by repeat (first | (with_reducible first | exact HB.out | apply below_alloc | apply pw_below_drewN | apply below_drew1 | refine below_set ?_ (IsS52.ge HI212.out)) | exact HB.out)⟩
                                                                  · rw [if_neg c72] at H
                                                                    have c72b0 : ((rd y206 x91_5) == 0) = false := beq_eq_false_iff_ne.mpr c72
                                                                    have c72b1 : ((rd y206 x91_5) != 0) = true := bne_iff_ne.mpr c72
                                                                    have H' := Aside0.mk H
                                                                    clear H
                                                                    have p223 : 0 ≤ (x18_8 : Int) := of_decide_eq_true (by first | (with_reducible assumption) | assumption)
                                                                    have q223 : x18_8 < (l1.length : Int) := of_decide_eq_true (by first | (with_reducible assumption) | assumption)
                                                                    obtain ⟨ad223, e223, hx223_0⟩ := Kd.at_string HR1.out x18_8 p223 q223
                                                                    cases e223
                                                                    replace hx223_0 := (HB.out.cell (World.block_lt_of_cell? w _ hx223_0)).trans hx223_0
                                                                    replace p223 := eq_true p223
                                                                    replace q223 := eq_true q223
                                                                    go_wp2_with (first | ((with_reducible refine gate_callee (f := 23) rfl ?_); refine goesL_ (some 165) rfl rfl Try.func23 (by kernel_rfl) rfl #[.pointer (some ⟨g212, 0, none⟩), .int .i64 500] rfl (by (try simp only [List.map_toArray, List.map_cons, List.map_nil]); first | done | rfl | (simp only [List.length_drop, List.length_take]; rfl)) ?_; (with_reducible refine (num_Reader_Text.calls kj64 g212 x213000_8 x213001_8 500 t224 t225 t226 w _ ?side1 ?side2 A71.out).mono ?_); (case side1 => repeat (first | (with_reducible first | exact HI212.out | apply IsS52.alloc | apply IsS52.drewN | apply IsS52.drew | apply IsS52.set_0 | apply IsS52.set_1) | exact HI212.out)); (case side2 => repeat (first | (with_reducible first | exact HB.out | apply below_alloc | apply pw_below_drewN | apply below_drew1 | refine below_set ?_ (IsS52.ge HI212.out)) | exact HB.out)); rintro e w76 ⟨rfl, hi, hb, hk⟩; refine ⟨_, rfl, ?_⟩; have n0_ := Aside0.mk (Kd.R_mono (Kd.R_keep (IsS52.apart (show IsS52 w _ g212 x213000_8 x213001_8 from by repeat (first | (with_reducible first | exact HI212.out | apply IsS52.alloc | apply IsS52.drewN | apply IsS52.drew | apply IsS52.set_0 | apply IsS52.set_1) | exact HI212.out)) (by (with_reducible repeat (first | apply Kd.R_alloc | apply Kd.R_drewN | apply Kd.R_drew)); exact HO_89.out) (by decide)) hk (fun _ h => h.2)) (fun _ h => h.1)); have n1_ := Aside0.mk (hb); have n2_ := Aside0.mk (hi); clear HO_89; clear HB; clear HI212; have HO_89 := n0_; have HB := n1_; have HI212 := n2_; clear n0_ n1_ n2_; (try clear hb); (try clear hb2); (try clear hk); (try clear hi)))
                                                                    go_roundg kj64
                                                                    case measure => have := HK1.out; have := HJ5.out; have := HK3.out; have := HJ23.out; have := HK5.out; have := HK6.out; have := HJ44.out; have := HK8.out; have := HJ64.out; omega
                                                                    case rel => exact ⟨(wrap64 (x18_8 + 1)), (t225), (t226), (by first | rfl | (simp; done) | (simp [*]; done)), H', ⟨by have := HK1.out; have := HJ5.out; have := HK3.out; have := HJ23.out; have := HK5.out; have := HK6.out; have := HJ44.out; have := HK8.out; have := HJ64.out; omega⟩, ⟨by (with_reducible repeat (first | apply Kd.R_alloc | apply Kd.R_drewN | apply Kd.R_drew)); exact HO_89.out⟩, ⟨by repeat (first | (with_reducible first | exact HI212.out | apply IsS52.alloc | apply IsS52.drewN | apply IsS52.drew | apply IsS52.set_0 | apply IsS52.set_1) | exact HI212.out)⟩, ⟨by repeat (first | (with_reducible first | exact HB.out | apply below_alloc | apply pw_below_drewN | apply below_drew1 | refine below_set ?_ (IsS52.ge HI212.out)) | exact HB.out)⟩⟩
                                                                · rw [if_neg c70] at H
                                                                  have c70b0 : decide (((rdOf ByteArray.empty l1 x18_8).size : Int) ≤ 500) = false := decide_eq_false c70
                                                                  have c70b1 : decide ((rdOf ByteArray.empty l1 x18_8).size ≤ 500) = false := decide_eq_false (by omega)
                                                                  clear c70
                                                                  have H' := Aside0.mk H
                                                                  clear H
                                                                  have p223 : 0 ≤ (x18_8 : Int) := of_decide_eq_true (by first | (with_reducible assumption) | assumption)
                                                                  have q223 : x18_8 < (l1.length : Int) := of_decide_eq_true (by first | (with_reducible assumption) | assumption)
                                                                  obtain ⟨ad223, e223, hx223_0⟩ := Kd.at_string HR1.out x18_8 p223 q223
                                                                  cases e223
                                                                  replace hx223_0 := (HB.out.cell (World.block_lt_of_cell? w _ hx223_0)).trans hx223_0
                                                                  replace p223 := eq_true p223
                                                                  replace q223 := eq_true q223
                                                                  go_wp2
                                                                  go_roundg kj64
                                                                  case measure => have := HK1.out; have := HJ5.out; have := HK3.out; have := HJ23.out; have := HK5.out; have := HK6.out; have := HJ44.out; have := HK8.out; have := HJ64.out; omega
                                                                  case rel => exact ⟨(wrap64 (x18_8 + 1)), (x213000_8), (x213001_8), (by first | rfl | (simp; done) | (simp [*]; done)), H', ⟨by have := HK1.out; have := HJ5.out; have := HK3.out; have := HJ23.out; have := HK5.out; have := HK6.out; have := HJ44.out; have := HK8.out; have := HJ64.out; omega⟩, ⟨by (with_reducible repeat (first | apply Kd.R_alloc | apply Kd.R_drewN | apply Kd.R_drew)); exact HO_89.out⟩, ⟨by repeat (first | (with_reducible first | exact HI212.out | apply IsS52.alloc | apply IsS52.drewN | apply IsS52.drew | apply IsS52.set_0 | apply IsS52.set_1) | exact HI212.out)⟩, ⟨by repeat (first | (with_reducible first | exact HB.out | apply below_alloc | apply pw_below_drewN | apply below_drew1 | refine below_set ?_ (IsS52.ge HI212.out)) | exact HB.out)⟩⟩
                                                              · rw [if_neg c69] at H
                                                                exact absurd H (by simp)
                                                            · rw [if_neg c68] at H
                                                              exact absurd H (by simp)
                                                          · replace c67 := Bool.eq_false_iff.mpr c67
                                                            subst c67
                                                            have H1 : (if (rd y206 x91_5) = 0 then ((num_Reader_End.f x213000_8 x213001_8).bind fun bt228 => (if bt228.1 = 0 then (if (rd y206 x91_5) = 1 then ((num_Reader_Err.f bt228.2.1 bt228.2.2).bind fun bt231 => (if bt231.1 = 10 then (garretlaw01_NumBack.l2 kj64 l0 l1 x5_3 y206 (y206.length : Int) (wrap64 (x91_5 + 1))) else (some false))) else (garretlaw01_NumBack.l2 kj64 l0 l1 x5_3 y206 (y206.length : Int) (wrap64 (x91_5 + 1)))) else (some false))) else (if (rd y206 x91_5) = 1 then ((num_Reader_Err.f x213000_8 x213001_8).bind fun bt234 => (if bt234.1 = 10 then (garretlaw01_NumBack.l2 kj64 l0 l1 x5_3 y206 (y206.length : Int) (wrap64 (x91_5 + 1))) else (some false))) else (garretlaw01_NumBack.l2 kj64 l0 l1 x5_3 y206 (y206.length : Int) (wrap64 (x91_5 + 1))))) = some r := by rw [if_neg (show ¬ (false = true) by decide)] at H; exact H
                                                            clear H
                                                            have H := H1
                                                            clear H1
                                                            by_cases c77 : (rd y206 x91_5) = 0
                                                            · rw [if_pos c77] at H
                                                              have c77b0 : ((rd y206 x91_5) == 0) = true := beq_iff_eq.mpr c77
                                                              have c77b1 : ((rd y206 x91_5) != 0) = false := bne_eq_false_iff_eq.mpr c77
                                                              clear c77
                                                              replace H := Option.bind_eq_some_iff.mp H
                                                              obtain ⟨⟨t228, t229, t230⟩, A780, H⟩ := H
                                                              replace H : (if t228 = 0 then (if (rd y206 x91_5) = 1 then ((num_Reader_Err.f t229 t230).bind fun bt231 => (if bt231.1 = 10 then (garretlaw01_NumBack.l2 kj64 l0 l1 x5_3 y206 (y206.length : Int) (wrap64 (x91_5 + 1))) else (some false))) else (garretlaw01_NumBack.l2 kj64 l0 l1 x5_3 y206 (y206.length : Int) (wrap64 (x91_5 + 1)))) else (some false)) = some r := H
                                                              have A78 := Aside0.mk A780
                                                              clear A780
                                                              by_cases c79 : t228 = 0
                                                              · rw [if_pos c79] at H
                                                                have c79b0 : (t228 == 0) = true := beq_iff_eq.mpr c79
                                                                have c79b1 : (t228 != 0) = false := bne_eq_false_iff_eq.mpr c79
                                                                clear c79
                                                                by_cases c80 : (rd y206 x91_5) = 1
                                                                · rw [if_pos c80] at H
                                                                  have c80b0 : ((rd y206 x91_5) == 1) = true := beq_iff_eq.mpr c80
                                                                  have c80b1 : ((rd y206 x91_5) != 1) = false := bne_eq_false_iff_eq.mpr c80
                                                                  clear c80
                                                                  replace H := Option.bind_eq_some_iff.mp H
                                                                  obtain ⟨⟨t231, t232, t233⟩, A810, H⟩ := H
                                                                  replace H : (if t231 = 10 then (garretlaw01_NumBack.l2 kj64 l0 l1 x5_3 y206 (y206.length : Int) (wrap64 (x91_5 + 1))) else (some false)) = some r := H
                                                                  have A81 := Aside0.mk A810
                                                                  clear A810
                                                                  by_cases c82 : t231 = 10
                                                                  · rw [if_pos c82] at H
                                                                    have c82b0 : (t231 == 10) = true := beq_iff_eq.mpr c82
                                                                    have c82b1 : (t231 != 10) = false := bne_eq_false_iff_eq.mpr c82
                                                                    clear c82
                                                                    have H' := Aside0.mk H
                                                                    clear H
                                                                    go_wp2_with (first | (go_at_call 24; (with_reducible refine (num_Reader_End.calls g212 x213000_8 x213001_8 t228 t229 t230 w _ ?side1 ?side2 A78.out).mono ?_); (case side1 => repeat (first | (with_reducible first | exact HI212.out | apply IsS52.alloc | apply IsS52.drewN | apply IsS52.drew | apply IsS52.set_0 | apply IsS52.set_1) | exact HI212.out)); (case side2 => repeat (first | (with_reducible first | exact HB.out | apply below_alloc | apply pw_below_drewN | apply below_drew1 | refine below_set ?_ (IsS52.ge HI212.out)) | exact HB.out)); rintro e w83 ⟨rfl, hi, hb, hk⟩; have n0_ := Aside0.mk (Kd.R_mono (Kd.R_keep (IsS52.apart (show IsS52 w _ g212 x213000_8 x213001_8 from by repeat (first | (with_reducible first | exact HI212.out | apply IsS52.alloc | apply IsS52.drewN | apply IsS52.drew | apply IsS52.set_0 | apply IsS52.set_1) | exact HI212.out)) (by (with_reducible repeat (first | apply Kd.R_alloc | apply Kd.R_drewN | apply Kd.R_drew)); exact HO_89.out) (by decide)) hk (fun _ h => h.2)) (fun _ h => h.1)); have n1_ := Aside0.mk (hb); have n2_ := Aside0.mk (hi); clear HO_89; clear HB; clear HI212; have HO_89 := n0_; have HB := n1_; have HI212 := n2_; clear n0_ n1_ n2_; (try clear hb); (try clear hb2); (try clear hk); (try clear hi)) | (go_at_call 17; (with_reducible refine (num_Reader_Err.calls g212 t229 t230 t231 t232 t233 w _ ?side1 ?side2 A81.out).mono ?_); (case side1 => repeat (first | (with_reducible first | exact HI212.out | apply IsS52.alloc | apply IsS52.drewN | apply IsS52.drew | apply IsS52.set_0 | apply IsS52.set_1) | exact HI212.out)); (case side2 => repeat (first | (with_reducible first | exact HB.out | apply below_alloc | apply pw_below_drewN | apply below_drew1 | refine below_set ?_ (IsS52.ge HI212.out)) | exact HB.out)); rintro e w84 ⟨rfl, hi, hb, hk⟩; have n0_ := Aside0.mk (Kd.R_mono (Kd.R_keep (IsS52.apart (show IsS52 w _ g212 t229 t230 from by repeat (first | (with_reducible first | exact HI212.out | apply IsS52.alloc | apply IsS52.drewN | apply IsS52.drew | apply IsS52.set_0 | apply IsS52.set_1) | exact HI212.out)) (by (with_reducible repeat (first | apply Kd.R_alloc | apply Kd.R_drewN | apply Kd.R_drew)); exact HO_89.out) (by decide)) hk (fun _ h => h.2)) (fun _ h => h.1)); have n1_ := Aside0.mk (hb); have n2_ := Aside0.mk (hi); clear HO_89; clear HB; clear HI212; have HO_89 := n0_; have HB := n1_; have HI212 := n2_; clear n0_ n1_ n2_; (try clear hb); (try clear hb2); (try clear hk); (try clear hi)))
                                                                    go_roundg kj64
                                                                    case measure => have := HK1.out; have := HJ5.out; have := HK3.out; have := HJ23.out; have := HK5.out; have := HK6.out; have := HJ44.out; have := HK8.out; have := HJ64.out; omega
                                                                    case rel => exact ⟨(wrap64 (x91_5 + 1)), (by first | rfl | (simp; done) | (simp [*]; done)), H', ⟨by have := HK1.out; have := HJ5.out; have := HK3.out; have := HJ23.out; have := HK5.out; have := HK6.out; have := HJ44.out; have := HK8.out; have := HJ64.out; omega⟩, ⟨by (with_reducible repeat (first | apply Kd.R_alloc | apply Kd.R_drewN | apply Kd.R_drew)); exact HO_89.out⟩, ⟨by repeat (first | (with_reducible first | exact HB.out | apply below_alloc | apply pw_below_drewN | apply below_drew1 | refine below_set ?_ (IsS52.ge HI212.out)) | exact HB.out)⟩⟩
                                                                  · rw [if_neg c82] at H
                                                                    have c82b0 : (t231 == 10) = false := beq_eq_false_iff_ne.mpr c82
                                                                    have c82b1 : (t231 != 10) = true := bne_iff_ne.mpr c82
                                                                    obtain rfl := Option.some.inj H
                                                                    go_wp2_with (first | (go_at_call 24; (with_reducible refine (num_Reader_End.calls g212 x213000_8 x213001_8 t228 t229 t230 w _ ?side1 ?side2 A78.out).mono ?_); (case side1 => repeat (first | (with_reducible first | exact HI212.out | apply IsS52.alloc | apply IsS52.drewN | apply IsS52.drew | apply IsS52.set_0 | apply IsS52.set_1) | exact HI212.out)); (case side2 => repeat (first | (with_reducible first | exact HB.out | apply below_alloc | apply pw_below_drewN | apply below_drew1 | refine below_set ?_ (IsS52.ge HI212.out)) | exact HB.out)); rintro e w85 ⟨rfl, hi, hb, hk⟩; have n0_ := Aside0.mk (Kd.R_mono (Kd.R_keep (IsS52.apart (show IsS52 w _ g212 x213000_8 x213001_8 from by repeat (first | (with_reducible first | exact HI212.out | apply IsS52.alloc | apply IsS52.drewN | apply IsS52.drew | apply IsS52.set_0 | apply IsS52.set_1) | exact HI212.out)) (by (with_reducible repeat (first | apply Kd.R_alloc | apply Kd.R_drewN | apply Kd.R_drew)); exact HO_89.out) (by decide)) hk (fun _ h => h.2)) (fun _ h => h.1)); have n1_ := Aside0.mk (hb); have n2_ := Aside0.mk (hi); clear HO_89; clear HB; clear HI212; have HO_89 := n0_; have HB := n1_; have HI212 := n2_; clear n0_ n1_ n2_; (try clear hb); (try clear hb2); (try clear hk); (try clear hi)) | (go_at_call 17; (with_reducible refine (num_Reader_Err.calls g212 t229 t230 t231 t232 t233 w _ ?side1 ?side2 A81.out).mono ?_); (case side1 => repeat (first | (with_reducible first | exact HI212.out | apply IsS52.alloc | apply IsS52.drewN | apply IsS52.drew | apply IsS52.set_0 | apply IsS52.set_1) | exact HI212.out)); (case side2 => repeat (first | (with_reducible first | exact HB.out | apply below_alloc | apply pw_below_drewN | apply below_drew1 | refine below_set ?_ (IsS52.ge HI212.out)) | exact HB.out)); rintro e w86 ⟨rfl, hi, hb, hk⟩; have n0_ := Aside0.mk (Kd.R_mono (Kd.R_keep (IsS52.apart (show IsS52 w _ g212 t229 t230 from by repeat (first | (with_reducible first | exact HI212.out | apply IsS52.alloc | apply IsS52.drewN | apply IsS52.drew | apply IsS52.set_0 | apply IsS52.set_1) | exact HI212.out)) (by (with_reducible repeat (first | apply Kd.R_alloc | apply Kd.R_drewN | apply Kd.R_drew)); exact HO_89.out) (by decide)) hk (fun _ h => h.2)) (fun _ h => h.1)); have n1_ := Aside0.mk (hb); have n2_ := Aside0.mk (hi); clear HO_89; clear HB; clear HI212; have HO_89 := n0_; have HB := n1_; have HI212 := n2_; clear n0_ n1_ n2_; (try clear hb); (try clear hb2); (try clear hk); (try clear hi)))
                                                                    go_ret
                                                                    exact ⟨by first | rfl | (simp [errW_none, errW_some] <;> rfl) | (simp only [← hji40]; first | rfl | (simp [errW_none, errW_some] <;> rfl)) | (simp [*, errW_none, errW_some] <;> rfl), by repeat (first | (with_reducible first | exact HB.out | apply below_alloc | apply pw_below_drewN | apply below_drew1 | refine below_set ?_ (IsS52.ge HI212.out)) | exact HB.out)⟩
                                                                · rw [if_neg c80] at H
                                                                  have c80b0 : ((rd y206 x91_5) == 1) = false := beq_eq_false_iff_ne.mpr c80
                                                                  have c80b1 : ((rd y206 x91_5) != 1) = true := bne_iff_ne.mpr c80
                                                                  have H' := Aside0.mk H
                                                                  clear H
                                                                  go_wp2_with (first | (go_at_call 24; (with_reducible refine (num_Reader_End.calls g212 x213000_8 x213001_8 t228 t229 t230 w _ ?side1 ?side2 A78.out).mono ?_); (case side1 => repeat (first | (with_reducible first | exact HI212.out | apply IsS52.alloc | apply IsS52.drewN | apply IsS52.drew | apply IsS52.set_0 | apply IsS52.set_1) | exact HI212.out)); (case side2 => repeat (first | (with_reducible first | exact HB.out | apply below_alloc | apply pw_below_drewN | apply below_drew1 | refine below_set ?_ (IsS52.ge HI212.out)) | exact HB.out)); rintro e w87 ⟨rfl, hi, hb, hk⟩; have n0_ := Aside0.mk (Kd.R_mono (Kd.R_keep (IsS52.apart (show IsS52 w _ g212 x213000_8 x213001_8 from by repeat (first | (with_reducible first | exact HI212.out | apply IsS52.alloc | apply IsS52.drewN | apply IsS52.drew | apply IsS52.set_0 | apply IsS52.set_1) | exact HI212.out)) (by (with_reducible repeat (first | apply Kd.R_alloc | apply Kd.R_drewN | apply Kd.R_drew)); exact HO_89.out) (by decide)) hk (fun _ h => h.2)) (fun _ h => h.1)); have n1_ := Aside0.mk (hb); have n2_ := Aside0.mk (hi); clear HO_89; clear HB; clear HI212; have HO_89 := n0_; have HB := n1_; have HI212 := n2_; clear n0_ n1_ n2_; (try clear hb); (try clear hb2); (try clear hk); (try clear hi)))
                                                                  go_roundg kj64
                                                                  case measure => have := HK1.out; have := HJ5.out; have := HK3.out; have := HJ23.out; have := HK5.out; have := HK6.out; have := HJ44.out; have := HK8.out; have := HJ64.out; omega
                                                                  case rel => exact ⟨(wrap64 (x91_5 + 1)), (by first | rfl | (simp; done) | (simp [*]; done)), H', ⟨by have := HK1.out; have := HJ5.out; have := HK3.out; have := HJ23.out; have := HK5.out; have := HK6.out; have := HJ44.out; have := HK8.out; have := HJ64.out; omega⟩, ⟨by (with_reducible repeat (first | apply Kd.R_alloc | apply Kd.R_drewN | apply Kd.R_drew)); exact HO_89.out⟩, ⟨by repeat (first | (with_reducible first | exact HB.out | apply below_alloc | apply pw_below_drewN | apply below_drew1 | refine below_set ?_ (IsS52.ge HI212.out)) | exact HB.out)⟩⟩
                                                              · rw [if_neg c79] at H
                                                                have c79b0 : (t228 == 0) = false := beq_eq_false_iff_ne.mpr c79
                                                                have c79b1 : (t228 != 0) = true := bne_iff_ne.mpr c79
                                                                obtain rfl := Option.some.inj H
                                                                go_wp2_with (first | (go_at_call 24; (with_reducible refine (num_Reader_End.calls g212 x213000_8 x213001_8 t228 t229 t230 w _ ?side1 ?side2 A78.out).mono ?_); (case side1 => repeat (first | (with_reducible first | exact HI212.out | apply IsS52.alloc | apply IsS52.drewN | apply IsS52.drew | apply IsS52.set_0 | apply IsS52.set_1) | exact HI212.out)); (case side2 => repeat (first | (with_reducible first | exact HB.out | apply below_alloc | apply pw_below_drewN | apply below_drew1 | refine below_set ?_ (IsS52.ge HI212.out)) | exact HB.out)); rintro e w88 ⟨rfl, hi, hb, hk⟩; have n0_ := Aside0.mk (Kd.R_mono (Kd.R_keep (IsS52.apart (show IsS52 w _ g212 x213000_8 x213001_8 from by repeat (first | (with_reducible first | exact HI212.out | apply IsS52.alloc | apply IsS52.drewN | apply IsS52.drew | apply IsS52.set_0 | apply IsS52.set_1) | exact HI212.out)) (by (with_reducible repeat (first | apply Kd.R_alloc | apply Kd.R_drewN | apply Kd.R_drew)); exact HO_89.out) (by decide)) hk (fun _ h => h.2)) (fun _ h => h.1)); have n1_ := Aside0.mk (hb); have n2_ := Aside0.mk (hi); clear HO_89; clear HB; clear HI212; have HO_89 := n0_; have HB := n1_; have HI212 := n2_; clear n0_ n1_ n2_; (try clear hb); (try clear hb2); (try clear hk); (try clear hi)))
                                                                go_ret
                                                                exact ⟨by first | rfl | (simp [errW_none, errW_some] <;> rfl) | (simp only [← hji40]; first | rfl | (simp [errW_none, errW_some] <;> rfl)) | (simp [*, errW_none, errW_some] <;> rfl), by repeat (first | (with_reducible first | exact HB.out | apply below_alloc | apply pw_below_drewN | apply below_drew1 | refine below_set ?_ (IsS52.ge HI212.out)) | exact HB.out)⟩
                                                            · rw [if_neg c77] at H
                                                              have c77b0 : ((rd y206 x91_5) == 0) = false := beq_eq_false_iff_ne.mpr c77
                                                              have c77b1 : ((rd y206 x91_5) != 0) = true := bne_iff_ne.mpr c77
                                                              by_cases c89 : (rd y206 x91_5) = 1
                                                              · rw [if_pos c89] at H
                                                                have c89b0 : ((rd y206 x91_5) == 1) = true := beq_iff_eq.mpr c89
                                                                have c89b1 : ((rd y206 x91_5) != 1) = false := bne_eq_false_iff_eq.mpr c89
                                                                clear c89
                                                                replace H := Option.bind_eq_some_iff.mp H
                                                                obtain ⟨⟨t234, t235, t236⟩, A900, H⟩ := H
                                                                replace H : (if t234 = 10 then (garretlaw01_NumBack.l2 kj64 l0 l1 x5_3 y206 (y206.length : Int) (wrap64 (x91_5 + 1))) else (some false)) = some r := H
                                                                have A90 := Aside0.mk A900
                                                                clear A900
                                                                by_cases c91 : t234 = 10
                                                                · rw [if_pos c91] at H
                                                                  have c91b0 : (t234 == 10) = true := beq_iff_eq.mpr c91
                                                                  have c91b1 : (t234 != 10) = false := bne_eq_false_iff_eq.mpr c91
                                                                  clear c91
                                                                  have H' := Aside0.mk H
                                                                  clear H
                                                                  go_wp2_with (first | (go_at_call 17; (with_reducible refine (num_Reader_Err.calls g212 x213000_8 x213001_8 t234 t235 t236 w _ ?side1 ?side2 A90.out).mono ?_); (case side1 => repeat (first | (with_reducible first | exact HI212.out | apply IsS52.alloc | apply IsS52.drewN | apply IsS52.drew | apply IsS52.set_0 | apply IsS52.set_1) | exact HI212.out)); (case side2 => repeat (first | (with_reducible first | exact HB.out | apply below_alloc | apply pw_below_drewN | apply below_drew1 | refine below_set ?_ (IsS52.ge HI212.out)) | exact HB.out)); rintro e w92 ⟨rfl, hi, hb, hk⟩; have n0_ := Aside0.mk (Kd.R_mono (Kd.R_keep (IsS52.apart (show IsS52 w _ g212 x213000_8 x213001_8 from by repeat (first | (with_reducible first | exact HI212.out | apply IsS52.alloc | apply IsS52.drewN | apply IsS52.drew | apply IsS52.set_0 | apply IsS52.set_1) | exact HI212.out)) (by (with_reducible repeat (first | apply Kd.R_alloc | apply Kd.R_drewN | apply Kd.R_drew)); exact HO_89.out) (by decide)) hk (fun _ h => h.2)) (fun _ h => h.1)); have n1_ := Aside0.mk (hb); have n2_ := Aside0.mk (hi); clear HO_89; clear HB; clear HI212; have HO_89 := n0_; have HB := n1_; have HI212 := n2_; clear n0_ n1_ n2_; (try clear hb); (try clear hb2); (try clear hk); (try clear hi)))
                                                                  go_roundg kj64
                                                                  case measure => have := HK1.out; have := HJ5.out; have := HK3.out; have := HJ23.out; have := HK5.out; have := HK6.out; have := HJ44.out; have := HK8.out; have := HJ64.out; omega
                                                                  case rel => exact ⟨(wrap64 (x91_5 + 1)), (by first | rfl | (simp; done) | (simp [*]; done)), H', ⟨by have := HK1.out; have := HJ5.out; have := HK3.out; have := HJ23.out; have := HK5.out; have := HK6.out; have := HJ44.out; have := HK8.out; have := HJ64.out; omega⟩, ⟨by (with_reducible repeat (first | apply Kd.R_alloc | apply Kd.R_drewN | apply Kd.R_drew)); exact HO_89.out⟩, ⟨by repeat (first | (with_reducible first | exact HB.out | apply below_alloc | apply pw_below_drewN | apply below_drew1 | refine below_set ?_ (IsS52.ge HI212.out)) | exact HB.out)⟩⟩
                                                                · rw [if_neg c91] at H
                                                                  have c91b0 : (t234 == 10) = false := beq_eq_false_iff_ne.mpr c91
                                                                  have c91b1 : (t234 != 10) = true := bne_iff_ne.mpr c91
                                                                  obtain rfl := Option.some.inj H
                                                                  go_wp2_with (first | (go_at_call 17; (with_reducible refine (num_Reader_Err.calls g212 x213000_8 x213001_8 t234 t235 t236 w _ ?side1 ?side2 A90.out).mono ?_); (case side1 => repeat (first | (with_reducible first | exact HI212.out | apply IsS52.alloc | apply IsS52.drewN | apply IsS52.drew | apply IsS52.set_0 | apply IsS52.set_1) | exact HI212.out)); (case side2 => repeat (first | (with_reducible first | exact HB.out | apply below_alloc | apply pw_below_drewN | apply below_drew1 | refine below_set ?_ (IsS52.ge HI212.out)) | exact HB.out)); rintro e w93 ⟨rfl, hi, hb, hk⟩; have n0_ := Aside0.mk (Kd.R_mono (Kd.R_keep (IsS52.apart (show IsS52 w _ g212 x213000_8 x213001_8 from by repeat (first | (with_reducible first | exact HI212.out | apply IsS52.alloc | apply IsS52.drewN | apply IsS52.drew | apply IsS52.set_0 | apply IsS52.set_1) | exact HI212.out)) (by (with_reducible repeat (first | apply Kd.R_alloc | apply Kd.R_drewN | apply Kd.R_drew)); exact HO_89.out) (by decide)) hk (fun _ h => h.2)) (fun _ h => h.1)); have n1_ := Aside0.mk (hb); have n2_ := Aside0.mk (hi); clear HO_89; clear HB; clear HI212; have HO_89 := n0_; have HB := n1_; have HI212 := n2_; clear n0_ n1_ n2_; (try clear hb); (try clear hb2); (try clear hk); (try clear hi)))
                                                                  go_ret
                                                                  exact ⟨by first | rfl | (simp [errW_none, errW_some] <;> rfl) | (simp only [← hji40]; first | rfl | (simp [errW_none, errW_some] <;> rfl)) | (simp [*, errW_none, errW_some] <;> rfl), by repeat (first | (with_reducible first | exact HB.out | apply below_alloc | apply pw_below_drewN | apply below_drew1 | refine below_set ?_ (IsS52.ge HI212.out)) | exact HB.out)⟩
                                                              · rw [if_neg c89] at H
                                                                have c89b0 : ((rd y206 x91_5) == 1) = false := beq_eq_false_iff_ne.mpr c89
                                                                have c89b1 : ((rd y206 x91_5) != 1) = true := bne_iff_ne.mpr c89
                                                                have H' := Aside0.mk H
                                                                clear H
                                                                go_wp2
                                                                go_roundg kj64
                                                                case measure => have := HK1.out; have := HJ5.out; have := HK3.out; have := HJ23.out; have := HK5.out; have := HK6.out; have := HJ44.out; have := HK8.out; have := HJ64.out; omega
                                                                case rel => exact ⟨(wrap64 (x91_5 + 1)), (by first | rfl | (simp; done) | (simp [*]; done)), H', ⟨by have := HK1.out; have := HJ5.out; have := HK3.out; have := HJ23.out; have := HK5.out; have := HK6.out; have := HJ44.out; have := HK8.out; have := HJ64.out; omega⟩, ⟨by (with_reducible repeat (first | apply Kd.R_alloc | apply Kd.R_drewN | apply Kd.R_drew)); exact HO_89.out⟩, ⟨by repeat (first | (with_reducible first | exact HB.out | apply below_alloc | apply pw_below_drewN | apply below_drew1 | refine below_set ?_ (IsS52.ge HI212.out)) | exact HB.out)⟩⟩
                                      · rw [if_neg c42] at H
                                        exact absurd H (by simp)
                                    · rw [if_neg c41] at H
                                      exact absurd H (by simp)
                                · rw [if_neg c38] at H
                                  exact absurd H (by simp)
                              · rw [if_neg c37] at H
                                exact absurd H (by simp)
                            · rw [if_neg c36] at H
                              have c36b0 : decide (x91_5 < (y206.length : Int)) = false := decide_eq_false c36
                              clear c36
                              obtain rfl := Option.some.inj H
                              go_wp2
                              go_ret
                              exact ⟨by first | rfl | (simp [errW_none, errW_some] <;> rfl) | (simp [*, errW_none, errW_some] <;> rfl), by repeat (first | (with_reducible first | exact HB.out | apply below_alloc | apply pw_below_drewN | apply below_drew1) | exact HB.out)⟩
  · replace c4 := Bool.eq_false_iff.mpr c4
    subst c4
    have H1 : (some false) = some r := by rw [if_neg (show ¬ (false = true) by decide)] at H; exact H
    clear H
    have H := H1
    clear H1
    obtain rfl := Option.some.inj H
    go_enter Try.func7, Try.ntmps7
    go_wp2_with (first | ((with_reducible refine gate_callee (f := 14) rfl ?_); refine goesL_ (some 20) rfl rfl Try.func14 (by kernel_rfl) rfl #[] rfl (by (try simp only [List.map_toArray, List.map_cons, List.map_nil]); first | done | rfl | (simp only [List.length_drop, List.length_take]; rfl)) ?_; (with_reducible refine (garretlaw01_works.calls k  false _ A3.out).mono ?_); rintro e w94 ⟨rfl, hb⟩; refine ⟨_, rfl, ?_⟩; have n0_ := Aside0.mk (below_step (by repeat (first | (with_reducible first | exact HB.out | apply below_alloc | apply pw_below_drewN | apply below_drew1) | exact HB.out)) hb); clear HB; have HB := n0_; clear n0_; (try clear hb); (try clear hb2); (try clear hk); (try clear hi)))
    go_ret
    exact ⟨by first | rfl | (simp [errW_none, errW_some] <;> rfl) | (simp [*, errW_none, errW_some] <;> rfl), by repeat (first | (with_reducible first | exact HB.out | apply below_alloc | apply pw_below_drewN | apply below_drew1) | exact HB.out)⟩

/-- THE ONE PURE STATEMENT of garretlaw01_NumBack: yours. -/
def garretlaw01_NumBack.Pure : Prop := ∀ (l0 : List Int) (l1 : List ByteArray), (l0.length ≤ maxLen ∧ l0.length * 8 ≤ 140737488351232 ∧ ∀ l0y ∈ l0, (Lit.int .i64 l0y).wf = true) → (l1.length ≤ maxLen ∧ l1.length * 16 ≤ 140737488351232 ∧ ∀ l1y ∈ l1, l1y.size ≤ 140737488351232) → ∃ k, garretlaw01_NumBack.f k l0 l1 = some true
theorem garretlaw01_NumBack.walk (P : garretlaw01_NumBack.Pure) (A0 : Option Addr) (c0 : Nat) (l0 : List Int) (A1 : Option Addr) (c1 : Nat) (l1 : List ByteArray) (w : World) (hr0 : Kd.C (Kd.int .i64) w A0 l0.length l0) (hc0 : l0.length ≤ c0) (hr1 : Kd.C Kd.string w A1 l1.length l1) (hc1 : l1.length ≤ c1) (o0 : (l0.length ≤ maxLen ∧ l0.length * 8 ≤ 140737488351232 ∧ ∀ l0y ∈ l0, (Lit.int .i64 l0y).wf = true)) (o1 : (l1.length ≤ maxLen ∧ l1.length * 16 ≤ 140737488351232 ∧ ∀ l1y ∈ l1, l1y.size ≤ 140737488351232)) :
    Calls Try.prog 7 #[.slice A0 l0.length c0, .slice A1 l1.length c1] w fun e w' => e = .returned (.bool true) ∧ Below w.heap.size w w' := by
  obtain ⟨k, h⟩ := P l0 l1 o0 o1
  refine (garretlaw01_NumBack.calls k A0 c0 l0 A1 c1 l1 true w hr0 hc0 hr1 hc1 h).mono ?_
  rintro e w' ⟨rfl, hd⟩
  exact ⟨rfl, hd⟩

end Go.Proofs.Ytfhipccjnmfefaa.QNum
