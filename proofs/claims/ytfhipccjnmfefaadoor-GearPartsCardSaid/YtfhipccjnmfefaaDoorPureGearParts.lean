/- GearParts, the plain part. -/
import Derived.Test.YtfhipccjnmfefaaDoorQGearx6
import Derived.Test.YtfhipccjnmfefaaDoorGearMore
namespace Go.Proofs.YtfhipccjnmfefaaDoor.Pure
open Go.RowKit Go.Proofs.YtfhipccjnmfefaaDoor.QGear Go.Proofs.YtfhipccjnmfefaaDoorW.PrintWords Go.Proofs.YtfhipccjnmfefaaDoorW.PrintLast Go.Proofs.YtfhipccjnmfefaaDoorW.PrintMore
set_option linter.unusedVariables false

theorem data_cut (s : ByteArray) (t : Nat) (ht : t ≤ s.size) : (s.extract 0 t).data.toList ++ (s.extract t s.size).data.toList = s.data.toList := by
  have h2 : s.data.toList.length = s.size := data_length s
  simp only [ByteArray.data_extract, Array.toList_extract, List.extract_eq_take_drop, List.drop_zero, Nat.sub_zero]
  rw [List.take_of_length_le (l := s.data.toList.drop t) (by rw [List.length_drop]; omega)]
  exact List.take_append_drop t _
theorem cut_flat {x0 b x2 : Int} (hx : GOK x0 b x2) : ∀ (n : Nat) (s : ByteArray), s.size ≤ n → ((cut x0 b x2 s).map (·.data.toList)).flatten = s.data.toList := by
  intro n
  induction n with
  | zero =>
    intro s hs
    rw [cut_nil _ _ _ _ (by omega)]
    have h2 : s.data.toList.length = s.size := data_length s
    exact (List.length_eq_zero_iff.1 (by omega)).symm
  | succ n ih =>
    intro s hs
    by_cases h : s.size = 0
    · rw [cut_nil _ _ _ _ h]
      have h2 : s.data.toList.length = s.size := data_length s
      exact (List.length_eq_zero_iff.1 (by omega)).symm
    · have hb := firstN_bounds hx s
      have hz := size_cut s (firstN x0 b x2 s) hb.1
      rw [cut_cons hx s h, List.map_cons, List.flatten_cons, ih _ (by omega)]
      exact data_cut s _ hb.1
theorem join_told {x0 b x2 : Int} (hx : GOK x0 b x2) (s : ByteArray) (hs : s.size ≤ 1048576) : ∃ t, strings_Join.f (cut x0 b x2 s) (⟨#[]⟩ : ByteArray) = some t ∧ (t.toList != s.toList) = false := by
  have hl := cut_length hx s.size s (Nat.le_refl _)
  have hj : Lib.join ((cut x0 b x2 s).map (·.data.toList)) (⟨#[]⟩ : ByteArray).data.toList = s.data.toList := by
    have e : Lib.join ((cut x0 b x2 s).map (·.data.toList)) [] = ((cut x0 b x2 s).map (·.data.toList)).flatten := by
      generalize (cut x0 b x2 s).map (·.data.toList) = l
      cases l with
      | nil => rfl
      | cons x r =>
        rw [Lib.join_cons, List.flatten_cons]
        unfold Lib.joinTail
        simp
    exact e.trans (cut_flat hx s.size s (Nat.le_refl _))
  refine ⟨⟨s.data.toList.toArray⟩, ?_, ?_⟩
  · unfold strings_Join.f
    rw [hj, if_pos ⟨by omega, by rw [data_length]; omega⟩]
  · rw [ByteArray.toList_eq]
    simp
theorem extract_extract (s : ByteArray) (a t : Nat) (ha : a ≤ s.size) : (s.extract a s.size).extract t (s.extract a s.size).size = s.extract (a + t) s.size := by
  apply ByteArray.ext
  have h2 : s.data.toList.length = s.size := data_length s
  rw [size_cut s a ha]
  simp only [ByteArray.data_extract]
  apply Array.toList_inj.mp
  simp only [Array.toList_extract, List.extract_eq_take_drop]
  rw [List.take_of_length_le (l := s.data.toList.drop a) (by rw [List.length_drop]; omega), List.drop_drop, List.take_of_length_le (by rw [List.length_drop]; omega), List.take_of_length_le (by rw [List.length_drop]; omega)]

theorem w64s (x : Int) (h0 : -1000000 ≤ x) (h1 : x ≤ 1000000) : wrap64 x = x := by unfold wrap64; omega
theorem parts_step (k : Nat) (s : ByteArray) (l : List ByteArray) (a i t : Nat) (c : ByteArray) (x0 y x2 : Int) (hk : a ≤ s.size) (hi : i < l.length) (hl : l.length ≤ 3000) (hs : s.size ≤ 3000) (ht : t ≤ 3000) (hrd : rdOf ByteArray.empty l (i : Int) = c) (hcs : c.size = t) (ht0 : 0 < t) (ht2 : (t : Int) ≤ x2)
    (hF : gear_First.f k x0 y x2 (s.extract a s.size) = some ((t : Int), 0)) (hq : i + 1 < l.length → x0 ≤ (t : Int))
    (hnx : garretlaw11_GearParts.l0 k s l ((a + t : Nat) : Int) l (l.length : Int) ((i + 1 : Nat) : Int) x0 y x2 = some true) :
    garretlaw11_GearParts.l0 (k + 1) s l (a : Int) l (l.length : Int) (i : Int) x0 y x2 = some true := by
  have w1 : wrap64 ((a : Int) + (t : Int)) = ((a + t : Nat) : Int) := w64s _ (by omega) (by omega)
  have w2 : wrap64 ((i : Int) + 1) = ((i + 1 : Nat) : Int) := w64s _ (by omega) (by omega)
  have w3 : wrap64 ((l.length : Int) - 1) = (l.length : Int) - 1 := w64s _ (by omega) (by omega)
  have hne : ¬ c.toList = ([] : List UInt8) := fun h => by have := (toList_nil _).1 h; omega
  have c1 : (i : Int) < (l.length : Int) := by omega
  have c2 : 0 ≤ (i : Int) := by omega
  have c3 : 0 ≤ (a : Int) := by omega
  have c4 : (a : Int) ≤ (s.size : Int) := by omega
  have c5 : ¬ (t : Int) > x2 := by omega
  rw [garretlaw11_GearParts.l0, if_pos c1, if_pos c2, if_pos c1, if_pos c3, if_pos c4, Int.toNat_natCast, bnd hF]
  dsimp only
  rw [hrd, hcs, w1, w2, w3, hnx, if_pos rfl, if_pos rfl, if_neg hne, if_neg c5]
  by_cases h : (i : Int) < (l.length : Int) - 1
  · have c6 : ¬ (t : Int) < x0 := by have := hq (by omega); omega
    rw [if_pos h, if_neg c6]
  · rw [if_neg h]
theorem parts_loop {x0 y x2 : Int} (hx : GOK x0 y x2) (s : ByteArray) (hs : s.size ≤ 3000) : ∀ (m : Nat) (a : Nat) (pre : List ByteArray) (k : Nat), a ≤ s.size → s.size - a ≤ m → m + 17000 ≤ k → pre.length ≤ 3000 → pre ++ cut x0 y x2 (s.extract a s.size) = cut x0 y x2 s →
    garretlaw11_GearParts.l0 k s (cut x0 y x2 s) (a : Int) (cut x0 y x2 s) ((cut x0 y x2 s).length : Int) (pre.length : Int) x0 y x2 = some true := by
  intro m
  induction m with
  | zero =>
    intro a pre k ha hm hk hp he
    obtain ⟨k, rfl⟩ : ∃ q, k = q + 1 := ⟨k - 1, by omega⟩
    have hz := size_cut s a ha
    rw [cut_nil _ _ _ _ (by omega), List.append_nil] at he
    simp only [garretlaw11_GearParts.l0]
    rw [← he, if_neg (by omega)]
  | succ m ih =>
    intro a pre k ha hm hk hp he
    obtain ⟨k, rfl⟩ : ∃ q, k = q + 1 := ⟨k - 1, by omega⟩
    have hz := size_cut s a ha
    by_cases hr : (s.extract a s.size).size = 0
    · rw [cut_nil _ _ _ _ hr, List.append_nil] at he
      simp only [garretlaw11_GearParts.l0]
      rw [← he, if_neg (by omega)]
    · have hb := firstN_bounds hx (s.extract a s.size)
      have hf := first_told hx (s.extract a s.size) (k := k) (by omega)
      have hF : gear_First.f k x0 y x2 (s.extract a s.size) = some (((firstN x0 y x2 (s.extract a s.size) : Nat) : Int), 0) := by
        unfold gear_First.f
        rw [bnd (check_ok hx), if_pos rfl, bnd hf]
      have hc := cut_cons hx (s.extract a s.size) hr
      have hl := cut_length hx s.size s (Nat.le_refl _)
      rw [extract_extract s a _ ha] at hc
      generalize ht : firstN x0 y x2 (s.extract a s.size) = t at *
      have hcs : ((s.extract a s.size).extract 0 t).size = t := by rw [ByteArray.size_extract]; omega
      have hrd : rdOf ByteArray.empty (cut x0 y x2 s) (pre.length : Int) = (s.extract a s.size).extract 0 t := by
        rw [← he, hc]
        simp [rdOf]
      have hlen : (cut x0 y x2 s).length = pre.length + 1 + (cut x0 y x2 (s.extract (a + t) s.size)).length := by
        rw [← he, hc, List.length_append, List.length_cons]; omega
      have hnx := ih (a + t) (pre ++ [(s.extract a s.size).extract 0 t]) k (by omega) (by omega) (by omega) (by rw [List.length_append, List.length_singleton]; omega) (by rw [← he, hc, List.append_assoc]; rfl)
      rw [List.length_append, List.length_singleton] at hnx
      have hts : t ≤ s.size - a := by omega
      refine parts_step k s (cut x0 y x2 s) a pre.length t _ x0 y x2 ha (by rw [hlen]; omega) (by omega) hs (by omega) hrd hcs (by omega) hb.2.1 hF (fun hq => hb.2.2.2 ?_) hnx
      rcases Nat.lt_or_ge t (s.extract a s.size).size with h | h
      · exact h
      · exfalso
        have h0 : (s.extract (a + t) s.size).size = 0 := by rw [size_cut s _ (by omega)]; omega
        rw [cut_nil _ _ _ _ h0] at hlen
        simp only [List.length_nil] at hlen
        omega

theorem GearParts : garretlaw11_GearParts.Pure := by
  intro n0 n1 n2 s h1 h2 h3 hs
  obtain ⟨k, hk⟩ : ∃ k : Nat, k = 40000 := ⟨_, rfl⟩
  refine ⟨k, ?_⟩
  obtain ⟨x0, y, x2, hsu, hx⟩ := setup_told n0 n1 n2 h1 h2 h3
  unfold garretlaw11_GearParts.f
  rw [bnd (works_told (by omega)), if_pos rfl]
  by_cases c : (s.size : Int) > 3000
  · rw [if_pos c]
  · rw [if_neg c, bnd hsu]
    dsimp only
    rw [bnd (chunks_told hx s (by omega) (by omega))]
    dsimp only
    obtain ⟨t, ht, htl⟩ := join_told hx s (by omega)
    rw [if_pos rfl, bnd ht, htl]
    obtain ⟨k, rfl⟩ : ∃ q, k = q + 1 := ⟨k - 1, by omega⟩
    simp only [garretlaw11_GearParts.j0]
    rw [if_neg (by simp)]
    exact parts_loop hx s (by omega) s.size 0 [] k (by omega) (by omega) (by omega) (by simp) (by rw [List.nil_append, extract_all])

end Go.Proofs.YtfhipccjnmfefaaDoor.Pure
