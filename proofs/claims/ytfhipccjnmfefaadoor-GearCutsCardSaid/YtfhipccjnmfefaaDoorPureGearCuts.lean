/- GearCuts, the plain part. -/
import Derived.Test.YtfhipccjnmfefaaDoorQGearx5
import Derived.Test.YtfhipccjnmfefaaDoorGearMore
import Derived.OpenShut
namespace Go.Proofs.YtfhipccjnmfefaaDoor.Pure
open Go.RowKit Go.Proofs.YtfhipccjnmfefaaDoor.QGear Go.Proofs.YtfhipccjnmfefaaDoorW.PrintWords Go.Proofs.YtfhipccjnmfefaaDoorW.PrintLast Go.Proofs.YtfhipccjnmfefaaDoorW.PrintMore
set_option linter.unusedVariables false

theorem wrap64u_id (x : Int) (h : (Lit.int .u64 x).wf = true) : IntKind.u64.wrap (x * 1) = x := by
  simp [Lit.wf, IntKind.min, IntKind.max, IntKind.signed, IntKind.bits] at h
  simp [IntKind.wrap, IntKind.signed, IntKind.bits]
  omega
theorem refOf_told (c : Int) : garretref11_Of.f c = some (gear_of.s2 c) := by
  unfold garretref11_Of.f gear_of.s2
  rw [wrap64u_id _ (wf_bits _ _ _ _)]
  rfl
theorem refGear_told (c : Int) : garretref11_Gear.f c = gear_Gear.f c := by
  unfold garretref11_Gear.f gear_Gear.f
  by_cases h : c < 0
  · rw [if_pos h, if_pos h]
  · rw [if_neg h, if_neg h]
    by_cases h2 : c > 255
    · rw [if_pos h2, if_pos (by omega)]
    · rw [if_neg h2, if_neg (by omega), refOf_told]
      rfl
theorem gear_any (c : Int) : ∃ r, gear_Gear.f c = some r := by
  unfold gear_Gear.f gear_of.f
  by_cases h : c < 0
  · exact ⟨_, by rw [if_pos h]⟩
  · rw [if_neg h]
    by_cases h2 : c ≥ 256
    · exact ⟨_, by rw [if_pos h2]⟩
    · rw [if_neg h2]; exact ⟨_, rfl⟩
theorem refCheck_ok {x0 b x2 : Int} (h : GOK x0 b x2) : garretref11_Check.f x0 b x2 = some 0 := by
  obtain ⟨h1, h2, h3, h4, h5, h6⟩ := h
  unfold garretref11_Check.f
  repeat' split
  all_goals first | rfl | (exfalso; omega)
theorem refCheck_bad {x0 b x2 : Int} (h : ¬ GOK x0 b x2) : garretref11_Check.f x0 b x2 = some 1 := by
  unfold GOK at h
  unfold garretref11_Check.f
  repeat' split
  all_goals first | rfl | (exfalso; omega)

theorem refLong_l0 (x0 b x2 : Int) (hb0 : 1 ≤ b) (hb : b ≤ 16) (h20 : 0 ≤ x2) (h2 : x2 ≤ 16384) (s : ByteArray) :
    ∀ (m i k : Nat) (h : Int), i + m = min s.size x2.toNat → 2 * m + 2 ≤ k → garretref11_Long.l0 k s h (i : Int) x0 b x2 = some ((gscan b s m i h : Nat) : Int) := by
  have hm2 : mn (s.size : Int) x2 = ((min s.size x2.toNat : Nat) : Int) := by unfold mn; split <;> omega
  intro m
  induction m with
  | zero =>
    intro i k h him hk
    obtain ⟨k, rfl⟩ : ∃ q, k = q + 2 := ⟨k - 2, by omega⟩
    simp only [garretref11_Long.l0, garretref11_Long.j1]
    have e : some (mn (s.size : Int) x2) = some ((gscan b s 0 i h : Nat) : Int) := by rw [hm2, ← him]; rfl
    by_cases c : (i : Int) < (s.size : Int)
    · rw [if_pos c, if_neg (by simp; omega)]
      exact e
    · rw [if_neg c, if_neg (by simp)]
      exact e
  | succ m ih =>
    intro i k h him hk
    obtain ⟨k, rfl⟩ : ∃ q, k = q + 2 := ⟨k - 2, by omega⟩
    have hw : wrap64 ((i : Int) + 1) = ((i + 1 : Nat) : Int) := by unfold wrap64; omega
    have hsh : 0 ≤ wrap64 (64 - b) := by unfold wrap64; omega
    have hnx := ih (i + 1) k (gstep s i h) (by omega) (by omega)
    simp only [garretref11_Long.l0, garretref11_Long.j1]
    rw [if_pos (by omega), if_pos (by rw [decide_eq_true_eq]; omega), if_pos (by omega), if_pos (by omega), bnd (refOf_told _), if_pos hsh, hw, Int.mul_comm 2 h]
    show (if shr .u64 (gstep s i h) (wrap64 (64 - b)) = 0 then some ((i + 1 : Nat) : Int) else garretref11_Long.l0 k s (gstep s i h) ((i + 1 : Nat) : Int) x0 b x2) = _
    rw [hnx]
    simp only [gscan]
    split <;> rfl
theorem refLong_told {x0 b x2 : Int} (hx : GOK x0 b x2) (s : ByteArray) {k : Nat} (hk : 32800 ≤ k) : garretref11_Long.f k x0 b x2 s = some ((firstN x0 b x2 s : Nat) : Int) := by
  obtain ⟨h1, h2, h3, h4, h5, h6⟩ := hx
  unfold garretref11_Long.f firstN
  by_cases c : (s.size : Int) ≤ x0
  · rw [if_pos c, if_pos c]
  · rw [if_neg c, if_neg c]
    have hw : wrap64 (x0 - 1) = (((x0 - 1).toNat : Nat) : Int) := by unfold wrap64; omega
    rw [hw]
    exact refLong_l0 x0 b x2 h3 h4 (by omega) h6 s _ _ k 0 (by omega) (by omega)
theorem refCut_l0 {x0 b x2 : Int} (hx : GOK x0 b x2) : ∀ (m : Nat) (s : ByteArray) (out : List ByteArray) (k : Nat), s.size ≤ m → out.length + s.size < 8796093022208 → m + 32810 ≤ k → garretref11_Cut.l0 k s out x0 b x2 = some (out ++ cutN x0 b x2 m s) := by
  intro m
  induction m with
  | zero =>
    intro s out k hs hl hk
    obtain ⟨k, rfl⟩ : ∃ q, k = q + 1 := ⟨k - 1, by omega⟩
    simp only [garretref11_Cut.l0]
    rw [if_pos ((toList_nil s).2 (by omega))]
    simp [cutN]
  | succ m ih =>
    intro s out k hs hl hk
    obtain ⟨k, rfl⟩ : ∃ q, k = q + 1 := ⟨k - 1, by omega⟩
    simp only [garretref11_Cut.l0]
    by_cases c : s.size = 0
    · rw [if_pos ((toList_nil s).2 c)]
      simp [cutN, c]
    · have hb := firstN_bounds hx s
      rw [if_neg (fun h => c ((toList_nil s).1 h)), bnd (refLong_told hx s (by omega)), if_pos (by omega), if_pos (by omega), if_pos (by omega), Int.toNat_natCast]
      rw [ih _ _ k (by rw [size_cut _ _ hb.1]; omega) (by rw [size_cut _ _ hb.1, List.length_append, List.length_singleton]; omega) (by omega)]
      simp [cutN, c]
theorem refChunks_told {x0 b x2 : Int} (hx : GOK x0 b x2) (s : ByteArray) (hs : s.size ≤ 1048576) {k : Nat} (hk : s.size + 32810 ≤ k) : garretref11_Chunks.f k x0 b x2 s = some (cut x0 b x2 s, 0) := by
  unfold garretref11_Chunks.f
  rw [bnd (refCheck_ok hx), if_pos rfl, if_neg (by omega)]
  unfold garretref11_Cut.f
  rw [bnd (refCut_l0 hx s.size s [] k (Nat.le_refl _) (by simp; omega) hk)]
  rfl
theorem spoil_l0 : ∀ (m : Nat) (l : List ByteArray) (i k : Nat), i + m = l.length → m < k → l.length < 4611686018427387904 → ∃ r, garretbook_SpoilTexts.l0 k l (i : Int) = some r := by
  intro m
  induction m with
  | zero =>
    intro l i k hi hk hl
    obtain ⟨k, rfl⟩ : ∃ q, k = q + 1 := ⟨k - 1, by omega⟩
    simp only [garretbook_SpoilTexts.l0]
    rw [if_neg (by omega)]
    exact ⟨_, rfl⟩
  | succ m ih =>
    intro l i k hi hk hl
    obtain ⟨k, rfl⟩ : ∃ q, k = q + 1 := ⟨k - 1, by omega⟩
    have hw : wrap64 ((i : Int) + 1) = ((i + 1 : Nat) : Int) := by unfold wrap64; omega
    simp only [garretbook_SpoilTexts.l0]
    rw [if_pos (by omega), if_pos (by omega), hw]
    exact ih _ (i + 1) k (by rw [List.length_set]; omega) (by omega) (by rw [List.length_set]; omega)
theorem spoil_told (l : List ByteArray) {k : Nat} (hl : l.length < 4611686018427387904) (hk : l.length < k) : ∃ r, garretbook_SpoilTexts.f k l = some r := spoil_l0 l.length l 0 k (by omega) hk hl

/-- The answer's own parts, alike, make the law true. -/
theorem cuts_join (k : Nat) (hk : 16400 ≤ k) (s : ByteArray) (b x0 y x2 : Int) (g : Int × Int) (n : Int × Int) (l : List ByteArray) (e c : Int) (hl : l.length < k) (hl2 : l.length < 4611686018427387904)
    (h1 : gear_Gear.f b = some g) (h2 : garretref11_Gear.f b = some g) (h3 : gear_First.f k x0 y x2 s = some n) (h4 : garretref11_First.f k x0 y x2 s = some n)
    (h5 : gear_Chunks.f k x0 y x2 s = some (l, e)) (h6 : garretref11_Chunks.f k x0 y x2 s = some (l, e)) (h7 : gear_Check.f x0 y x2 = some c) (h8 : garretref11_Check.f x0 y x2 = some c) :
    garretlaw11_GearCuts.j0 (k + 1) s b false x0 y x2 = some true := by
  obtain ⟨r, hr⟩ := spoil_told l hl2 hl
  simp only [garretlaw11_GearCuts.j0]
  rw [if_neg (by simp), bnd h1, bnd h2, bnd h3, bnd h4, bnd h5, bnd h6, bnd h7, bnd h8]
  rw [if_pos rfl, if_pos rfl, if_pos rfl, if_pos rfl, if_pos rfl, bnd (same_refl l hl2 hl), if_pos rfl, if_pos rfl, bnd (works_told hk), bnd hr]

theorem GearCuts : garretlaw11_GearCuts.Pure := by
  intro x0 y x2 s b h0 h1 h2 hs hb
  obtain ⟨k, hk⟩ : ∃ k : Nat, k = 2000000 := ⟨_, rfl⟩
  refine ⟨k + 1, ?_⟩
  unfold garretlaw11_GearCuts.f
  have main : (s.size ≤ 5000 ∨ 1048576 < s.size) → garretlaw11_GearCuts.j0 (k + 1) s b false x0 y x2 = some true := by
    intro hz
    obtain ⟨g, hg⟩ := gear_any b
    have hg2 : garretref11_Gear.f b = some g := (refGear_told b).trans hg
    by_cases hx : GOK x0 y x2
    · have f1 : gear_First.f k x0 y x2 s = some (((firstN x0 y x2 s : Nat) : Int), 0) := by
        unfold gear_First.f
        rw [bnd (check_ok hx), if_pos rfl, bnd (first_told hx s (by omega))]
      have f2 : garretref11_First.f k x0 y x2 s = some (((firstN x0 y x2 s : Nat) : Int), 0) := by
        unfold garretref11_First.f
        rw [bnd (refCheck_ok hx), if_pos rfl, bnd (refLong_told hx s (by omega))]
      rcases hz with hz | hz
      · have hl := cut_length hx s.size s (Nat.le_refl _)
        exact cuts_join k (by omega) s b x0 y x2 g _ _ _ _ (by omega) (by omega) hg hg2 f1 f2 (chunks_told hx s (by omega) (by omega)) (refChunks_told hx s (by omega) (by omega)) (check_ok hx) (refCheck_ok hx)
      · have c1 : gear_Chunks.f k x0 y x2 s = some ([], 2) := by
          unfold gear_Chunks.f
          rw [bnd (check_ok hx), if_pos rfl, if_pos (by omega)]
        have c2 : garretref11_Chunks.f k x0 y x2 s = some ([], 2) := by
          unfold garretref11_Chunks.f
          rw [bnd (refCheck_ok hx), if_pos rfl, if_pos (by omega)]
        exact cuts_join k (by omega) s b x0 y x2 g _ [] _ _ (by simp; omega) (by simp) hg hg2 f1 f2 c1 c2 (check_ok hx) (refCheck_ok hx)
    · have f1 : gear_First.f k x0 y x2 s = some (0, 1) := by
        unfold gear_First.f
        rw [bnd (check_bad hx), if_neg (by decide)]
      have f2 : garretref11_First.f k x0 y x2 s = some (0, 1) := by
        unfold garretref11_First.f
        rw [bnd (refCheck_bad hx), if_neg (by decide)]
      have c1 : gear_Chunks.f k x0 y x2 s = some ([], 1) := by
        unfold gear_Chunks.f
        rw [bnd (check_bad hx), if_neg (by decide)]
      have c2 : garretref11_Chunks.f k x0 y x2 s = some ([], 1) := by
        unfold garretref11_Chunks.f
        rw [bnd (refCheck_bad hx), if_neg (by decide)]
      exact cuts_join k (by omega) s b x0 y x2 g _ [] _ _ (by simp; omega) (by simp) hg hg2 f1 f2 c1 c2 (check_bad hx) (refCheck_bad hx)
  by_cases c : (s.size : Int) > 5000
  · rw [if_pos c]
    by_cases d : (s.size : Int) ≤ 1048576
    · rw [decide_eq_true d]
      simp only [garretlaw11_GearCuts.j0]
      rw [if_pos trivial, bnd (works_told (by omega))]
    · rw [decide_eq_false d]
      exact main (by omega)
  · rw [if_neg c]
    exact main (by omega)

end Go.Proofs.YtfhipccjnmfefaaDoor.Pure
