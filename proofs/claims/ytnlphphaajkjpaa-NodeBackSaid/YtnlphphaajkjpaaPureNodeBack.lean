/- NodeBack, the plain part: a node that may be is told by its bytes and read as it was; what is read is told by just those bytes; cut short they are none's. -/
import Derived.Test.YtnlphphaajkjpaaQNodBx8
import Derived.Test.YtnlphphaajkjpaaZNodBNodeRead
namespace Go.Proofs.Ytnlphphaajkjpaa.Pure
open Go.RowKit Go.Proofs.Ytnlphphaajkjpaa.QNodB Go.Proofs.YtnlphphaajkjpaaW.PrintWords Go.Proofs.YtnlphphaajkjpaaW.PrintLast Go.Proofs.YtnlphphaajkjpaaW.PrintMore
set_option linter.unusedVariables false

theorem among_told (a n : Int) (h0 : -9223372036854775808 ≤ a) (h1 : a ≤ 9223372036854775807) (hn : 0 < n) (hn2 : n ≤ 1000000) : ∃ r, garretbook_Among.f a n = some r ∧ 0 ≤ r ∧ r < n := by
  unfold garretbook_Among.f
  rw [if_neg (by omega)]
  have hA : -n < Int.tmod a n ∧ Int.tmod a n < n := by
    have := Int.tmod_lt_of_pos a hn
    have h2 := Int.tmod_lt_of_pos (-a) hn
    rw [Int.neg_tmod] at h2
    omega
  have hw : wrap64 (Int.tmod a n + n) = Int.tmod a n + n := by
    have := hA.1; have := hA.2
    generalize Int.tmod a n = q at *
    unfold wrap64; omega
  rw [hw]
  exact ⟨_, rfl, Int.tmod_nonneg _ (by omega), Int.tmod_lt_of_pos _ hn⟩
theorem wf_i64 {a : Int} (h : (Lit.int .i64 a).wf = true) : -9223372036854775808 ≤ a ∧ a ≤ 9223372036854775807 := by
  simp [Lit.wf, IntKind.min, IntKind.max, IntKind.signed, IntKind.bits] at h
  omega
theorem equal_l0 (l : List ByteArray) (hl : l.length < 1000000) : ∀ (m i k : Nat), i + m = l.length → m < k → slices_Equal_string_string.l0 k l l (l.length : Int) (i : Int) = some true := by
  intro m
  induction m with
  | zero =>
    intro i k hi hk
    obtain ⟨k, rfl⟩ : ∃ q, k = q + 1 := ⟨k - 1, by omega⟩
    rw [slices_Equal_string_string.l0, if_neg (by omega)]
  | succ m ih =>
    intro i k hi hk
    obtain ⟨k, rfl⟩ : ∃ q, k = q + 1 := ⟨k - 1, by omega⟩
    have hw : wrap64 ((i : Int) + 1) = ((i + 1 : Nat) : Int) := by unfold wrap64; omega
    rw [slices_Equal_string_string.l0, if_pos (by omega), if_pos (by omega), if_pos (by omega), if_pos (by omega), if_pos rfl, hw]
    exact ih (i + 1) k (by omega) (by omega)
theorem same_refl (x : S24) (hl : x.f6.length < 100000) {k : Nat} (hk : 100001 ≤ k) : node_Same.f k x.f0 x.f1 x.f2 x.f3 x.f4 x.f5 x.f6 x.f7 x.f8 x.f0 x.f1 x.f2 x.f3 x.f4 x.f5 x.f6 x.f7 x.f8 = some true := by
  have he : slices_Equal_string_string.f k x.f6 x.f6 = some true := by
    unfold slices_Equal_string_string.f
    rw [if_pos rfl]
    exact equal_l0 x.f6 (by omega) x.f6.length 0 k (by omega) (by omega)
  unfold node_Same.f
  rw [if_pos (by simp), bnd he]
theorem works_told {k : Nat} (hk : 30 ≤ k) : garretlaw18_works.f k = some true :=
  at_rounds (fun k => garretlaw18_works.mono k) hk (by decide +kernel)
theorem flat_len (l : List ByteArray) (h : ∀ y ∈ l, y.size = 32) : (l.flatMap bytesOf).length = l.length * 32 := by
  induction l with
  | nil => rfl
  | cons a l ih =>
    rw [List.flatMap_cons, List.length_append, ih (fun y hy => h y (List.mem_cons_of_mem _ hy)), bytesOf_size, h a (List.mem_cons_self ..), List.length_cons]
    omega
theorem enc_len {x : S24} (hg : Go.Proofs.Ytnlphphaajkjpaa.QNodB.Good x) : 0 < (nEnc x).length ∧ (nEnc x).length ≤ 500000 := by
  have hn := hg.1
  have hnm := hn.nm; have hmd := hn.md; have hmt := hn.mt; have hct := hn.ct
  have l0 := encS_len9 (x := x.f0.size) (by omega)
  have l2 := encS_len9 (x := x.f2.toNat) (by omega)
  have l3 := encS_len9 (x := x.f3.toNat) (by omega)
  have l4 := encS_len9 (x := x.f4.toNat) (by omega)
  have ht : (nTail x).length ≤ 200000 := by
    unfold nTail
    rcases hn.kd with ⟨h1, h7, h8, h5, h5', h6, h32⟩ | ⟨h1, h5, h6, h7, h8⟩ | ⟨h1, h5, h6, h7, h8⟩
    · rw [if_pos h1, List.length_append, List.length_append, flat_len x.f6 h32]
      have l5 := encS_len9 (x := x.f5.toNat) (by omega)
      have l6 := encS_len9 (x := x.f6.length) (by omega)
      omega
    · rw [if_neg (by omega), if_pos h1, bytesOf_size]; omega
    · rw [if_neg (by omega), if_neg (by omega), List.length_append, bytesOf_size]
      have l8 := encS_len9 (x := x.f8.size) (by omega)
      omega
  unfold nEnc
  simp only [List.length_append, List.length_singleton, bytesOf_size]
  omega
theorem back_j1 {k : Nat} (hk : 20001 ≤ k) (s : ByteArray) : garretlaw18_NodeBack.j1 k s = some true := by
  obtain ⟨k, rfl⟩ : ∃ q, k = q + 1 := ⟨k - 1, by omega⟩
  rw [garretlaw18_NodeBack.j1]
  rcases decode_told (k := k) (by omega) s with ⟨x, hr, hg, hb⟩ | hr
  · rw [bnd hr]
    dsimp only
    obtain ⟨b, he, hbb⟩ := encode_told hg (k := k) (by omega)
    rw [if_pos rfl, bnd he]
    dsimp only
    rw [if_pos rfl]
    have : b = s := bytesOf_inj (by rw [hbb, hb])
    rw [this]
    simp
  · rw [bnd hr]
    dsimp only
    rw [if_neg (by decide)]
theorem NodeBack : garretlaw18_NodeBack.Pure := by
  intro a0_0 a0_1 a0_2 a0_3 a0_4 a0_5 l0_6 a0_7 a0_8 s at_ _ _ _ _ _ _ _ _ _ _ hat
  refine ⟨200001, ?_⟩
  obtain ⟨q0, q1⟩ := wf_i64 hat
  unfold garretlaw18_NodeBack.f
  rw [bnd (works_told (by omega)), if_pos rfl]
  by_cases hs : (s.size : Int) > 10000
  · rw [if_pos hs, garretlaw18_NodeBack.j0, if_pos rfl]
  · rw [if_neg hs, garretlaw18_NodeBack.j0]
    by_cases hl : (l0_6.length : Int) > 200
    · rw [decide_eq_true hl, if_pos rfl]
    · rw [decide_eq_false hl, if_neg (by decide)]
      rcases good_or (⟨a0_0, a0_1, a0_2, a0_3, a0_4, a0_5, l0_6, a0_7, a0_8⟩ : S24) (by show l0_6.length ≤ _; omega) with hg | hc
      · obtain ⟨b, he, hb⟩ := encode_told hg (k := 200000) (by omega)
        dsimp only at he
        rw [bnd he]
        dsimp only
        rw [if_pos rfl, bnd (decode_fwd (by omega) hg b hb)]
        dsimp only
        have hlen := enc_len hg
        have hz : b.size = (nEnc (⟨a0_0, a0_1, a0_2, a0_3, a0_4, a0_5, l0_6, a0_7, a0_8⟩ : S24)).length := sz _ _ hb
        obtain ⟨r, hr, r0, r1⟩ := among_told at_ (b.size : Int) q0 q1 (by omega) (by omega)
        rw [bnd hr, if_pos r0, if_pos (by omega)]
        have hcut := decode_cut (k := 200000) (by omega) hg b (b.extract 0 r.toNat) hb ((bytesOf b).drop r.toNat)
          (by intro h; have := List.drop_eq_nil_iff.1 h; rw [bytesOf_size] at this; omega)
          (by rw [ext_take, List.take_append_drop])
        rw [bnd hcut]
        dsimp only
        rw [if_pos rfl, bnd (same_refl (⟨a0_0, a0_1, a0_2, a0_3, a0_4, a0_5, l0_6, a0_7, a0_8⟩ : S24) (by show l0_6.length < _; omega) (k := 200000) (by omega)), if_pos rfl, if_pos rfl]
        exact back_j1 (by omega) s
      · have he := encode_bad hc (k := 200000) (by show l0_6.length + 6 ≤ _; omega)
        dsimp only at he
        rw [bnd he]
        dsimp only
        rw [if_neg (by decide)]
        exact back_j1 (by omega) s
end Go.Proofs.Ytnlphphaajkjpaa.Pure
