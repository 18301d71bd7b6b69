/- Gear, the plain part, more: the small setup, the example, texts that are the same; gears of unlike bytes; a cut and what is put behind it. -/
import Derived.Test.YtfhipccjnmfefaaDoorQGearx2
import Derived.Test.YtfhipccjnmfefaaDoorGearScan
namespace Go.Proofs.YtfhipccjnmfefaaDoor.QGear
open Go.RowKit Go.Proofs.YtfhipccjnmfefaaDoorW.PrintWords Go.Proofs.YtfhipccjnmfefaaDoorW.PrintLast Go.Proofs.YtfhipccjnmfefaaDoorW.PrintMore
set_option linter.unusedVariables false

theorem same_l0 (l : List ByteArray) (hl : l.length < 4611686018427387904) : ∀ (m i k : Nat), i + m = l.length → m < k → garretbook_SameTexts.l0 k l l (i : Int) = some true := by
  intro m
  induction m with
  | zero =>
    intro i k hi hk
    obtain ⟨k, rfl⟩ : ∃ q, k = q + 1 := ⟨k - 1, by omega⟩
    simp only [garretbook_SameTexts.l0]
    rw [if_neg (by omega)]
  | succ m ih =>
    intro i k hi hk
    obtain ⟨k, rfl⟩ : ∃ q, k = q + 1 := ⟨k - 1, by omega⟩
    have hw : wrap64 ((i : Int) + 1) = ((i + 1 : Nat) : Int) := by unfold wrap64; omega
    simp only [garretbook_SameTexts.l0]
    rw [if_pos (by omega), if_pos (by omega), if_pos (by omega), if_pos trivial, hw]
    exact ih (i + 1) k (by omega) (by omega)
theorem same_refl (l : List ByteArray) (hl : l.length < 4611686018427387904) {k : Nat} (hk : l.length < k) : garretbook_SameTexts.f k l l = some true := by
  unfold garretbook_SameTexts.f
  rw [if_pos rfl]
  exact same_l0 l hl l.length 0 k (by omega) hk

theorem works_cut : cut 2 1 2 (⟨#[97, 98, 99, 100, 101]⟩ : ByteArray) = [(⟨#[97, 98]⟩ : ByteArray), (⟨#[99, 100]⟩ : ByteArray), (⟨#[101]⟩ : ByteArray)] := by decide +kernel
theorem works_told {k : Nat} (hk : 16400 ≤ k) : garretlaw11_works.f k = some true := by
  unfold garretlaw11_works.f
  rw [bnd (chunks_told (x0 := 2) (b := 1) (x2 := 2) ⟨by decide, by decide, by decide, by decide, by decide, by decide⟩ _ (by decide) (k := k) (by show 5 + 16387 ≤ k; omega))]
  rw [if_pos rfl, works_cut]
  rw [bnd (same_refl _ (by decide) (show 3 < k by omega))]

theorem among_told (a n : Int) (h0 : -9223372036854775808 ≤ a) (h1 : a ≤ 9223372036854775807) (hn : 0 < n) (hn2 : n ≤ 1000000) : ∃ r, garretbook_Among.f a n = some r ∧ 0 ≤ r ∧ r < n := by
  unfold garretbook_Among.f
  rw [if_neg (by omega)]
  have hA : -n < Int.tmod a n ∧ Int.tmod a n < n := by
    have := Int.tmod_lt_of_pos a hn
    have h2 := Int.tmod_lt_of_pos (-a) hn
    rw [Int.neg_tmod] at h2
    omega
  have hw : wrap64 (Int.tmod a n + n) = Int.tmod a n + n := by
    have := hA.1; have := hA.2
    generalize Int.tmod a n = q at *
    unfold wrap64; omega
  rw [hw]
  refine ⟨_, rfl, ?_, ?_⟩
  · exact Int.tmod_nonneg _ (by omega)
  · exact Int.tmod_lt_of_pos _ hn
theorem among_id (a n : Int) (h0 : 0 ≤ a) (h1 : a < n) (hn2 : n ≤ 1000000) : True := trivial
theorem wf_i64 {a : Int} (h : (Lit.int .i64 a).wf = true) : -9223372036854775808 ≤ a ∧ a ≤ 9223372036854775807 := by
  simp [Lit.wf, IntKind.min, IntKind.max, IntKind.signed, IntKind.bits] at h
  omega
theorem setup_told (a b c : Int) (ha : (Lit.int .i64 a).wf = true) (hb : (Lit.int .i64 b).wf = true) (hc : (Lit.int .i64 c).wf = true) :
    ∃ x0 y x2, garretlaw11_setup.f a b c = some (x0, y, x2) ∧ GOK x0 y x2 := by
  obtain ⟨r, hr, r0, r1⟩ := among_told a 30 (wf_i64 ha).1 (wf_i64 ha).2 (by decide) (by decide)
  obtain ⟨s, hs, s0, s1⟩ := among_told b 8 (wf_i64 hb).1 (wf_i64 hb).2 (by decide) (by decide)
  obtain ⟨t, ht, t0, t1⟩ := among_told c 100 (wf_i64 hc).1 (wf_i64 hc).2 (by decide) (by decide)
  have w1 : wrap64 (1 + r) = 1 + r := by unfold wrap64; omega
  have w2 : wrap64 (1 + s) = 1 + s := by unfold wrap64; omega
  have w3 : wrap64 (1 + r + t) = 1 + r + t := by unfold wrap64; omega
  refine ⟨1 + r, 1 + s, 1 + r + t, ?_, by unfold GOK; omega⟩
  unfold garretlaw11_setup.f
  rw [bnd hr]
  rw [bnd hs]
  rw [bnd ht, w1, w2, w3]

theorem of_nodup : ((List.range 256).map (fun b : Nat => gear_of.s2 (b : Int))).Nodup := by decide +kernel
theorem of_inj {b c : Nat} (hb : b < 256) (hc : c < 256) (h : gear_of.s2 (b : Int) = gear_of.s2 (c : Int)) : b = c := by
  have hp := List.pairwise_iff_getElem.1 of_nodup
  have e : ((List.range 256).map (fun b : Nat => gear_of.s2 (b : Int)))[b]'(by simpa using hb) = ((List.range 256).map (fun b : Nat => gear_of.s2 (b : Int)))[c]'(by simpa using hc) := by
    rw [List.getElem_map, List.getElem_map, List.getElem_range, List.getElem_range]
    exact h
  rcases Nat.lt_trichotomy b c with hlt | he | hgt
  · exact absurd e (hp b c (by simpa using hb) (by simpa using hc) hlt)
  · exact he
  · exact absurd e.symm (hp c b (by simpa using hc) (by simpa using hb) hgt)
theorem gear_told (c : Nat) (hc : c < 256) : gear_Gear.f (c : Int) = some (gear_of.s2 (c : Int), 0) := by
  unfold gear_Gear.f
  rw [if_neg (by omega), if_neg (by omega), show (c : Int) % 256 = (c : Int) by omega]
  rfl

theorem extract_all (s : ByteArray) : s.extract 0 s.size = s := by
  apply ByteArray.ext
  simp
theorem extract_append_left (s u : ByteArray) (t : Nat) (ht : t ≤ s.size) : (s ++ u).extract 0 t = s.extract 0 t := by
  apply ByteArray.ext
  have h2 : t ≤ s.data.size := ht
  simp only [ByteArray.data_extract, ByteArray.data_append]
  apply Array.toList_inj.mp
  simp only [Array.toList_extract, Array.toList_append, List.extract_eq_take_drop, List.drop_zero, Nat.sub_zero]
  rw [List.take_append_of_le_length (by simpa using h2)]
theorem extract_append_right (s u : ByteArray) (t : Nat) (ht : t ≤ s.size) : (s ++ u).extract t (s ++ u).size = s.extract t s.size ++ u := by
  apply ByteArray.ext
  have h2 : t ≤ s.data.size := ht
  have h3 : s.size = s.data.size := rfl
  have h4 : u.size = u.data.size := rfl
  simp only [ByteArray.data_extract, ByteArray.data_append, size_append]
  apply Array.toList_inj.mp
  simp only [Array.toList_extract, Array.toList_append, List.extract_eq_take_drop]
  rw [List.drop_append_of_le_length (by simpa using h2), List.take_of_length_le (by simp <;> omega), List.take_of_length_le (by simp <;> omega)]

/-- What is put behind a text changes its last chunk alone. -/
theorem cut_behind {x0 b x2 : Int} (hx : GOK x0 b x2) (u : ByteArray) : ∀ (n : Nat) (s : ByteArray), s.size ≤ n → s.size ≠ 0 → ∃ (pre : List ByteArray) (c : ByteArray), cut x0 b x2 s = pre ++ [c] ∧ c.size ≠ 0 ∧ cut x0 b x2 (s ++ u) = pre ++ cut x0 b x2 (c ++ u) := by
  intro n
  induction n with
  | zero => intro s hs h; omega
  | succ n ih =>
    intro s hs h
    have hb := firstN_bounds hx s
    by_cases c : firstN x0 b x2 s = s.size
    · refine ⟨[], s, ?_, h, rfl⟩
      rw [cut_cons hx s h, c, extract_all, cut_nil]
      · rfl
      · rw [size_cut _ _ (Nat.le_refl _)]; omega
    · have hlt : firstN x0 b x2 s < s.size := by omega
      have hz := size_cut s (firstN x0 b x2 s) hb.1
      obtain ⟨pre, c', h1, h2, h3⟩ := ih (s.extract (firstN x0 b x2 s) s.size) (by omega) (by omega)
      refine ⟨s.extract 0 (firstN x0 b x2 s) :: pre, c', ?_, h2, ?_⟩
      · rw [cut_cons hx s h, h1]; rfl
      · rw [cut_cons hx (s ++ u) (by rw [size_append]; omega), firstN_ext hx s u hlt, extract_append_left s u _ hb.1, extract_append_right s u _ hb.1, h3]; rfl
theorem cut_length {x0 b x2 : Int} (hx : GOK x0 b x2) : ∀ (n : Nat) (s : ByteArray), s.size ≤ n → (cut x0 b x2 s).length ≤ s.size := by
  intro n
  induction n with
  | zero => intro s hs; rw [cut_nil _ _ _ _ (by omega)]; simp
  | succ n ih =>
    intro s hs
    by_cases h : s.size = 0
    · rw [cut_nil _ _ _ _ h]; simp
    · have hb := firstN_bounds hx s
      have hz := size_cut s (firstN x0 b x2 s) hb.1
      have := ih (s.extract (firstN x0 b x2 s) s.size) (by omega)
      rw [cut_cons hx s h, List.length_cons]
      omega
end Go.Proofs.YtfhipccjnmfefaaDoor.QGear
