/- TreeBack, the plain part: nodes that are told by a text are read as they were; what is read is told by just that text; cut short it is none's. -/
import Derived.Test.YtnlphphaajkjpaaQTreBx8
import Derived.Test.YtnlphphaajkjpaaZTreBTreeRead
namespace Go.Proofs.Ytnlphphaajkjpaa.Pure
open Go.RowKit Go.Proofs.Ytnlphphaajkjpaa.QTreB Go.Proofs.YtnlphphaajkjpaaW.PrintWords Go.Proofs.YtnlphphaajkjpaaW.PrintLast Go.Proofs.YtnlphphaajkjpaaW.PrintMore
set_option linter.unusedVariables false

theorem among_told (a n : Int) (h0 : -9223372036854775808 ≤ a) (h1 : a ≤ 9223372036854775807) (hn : 0 < n) (hn2 : n ≤ 1000000) : ∃ r, garretbook_Among.f a n = some r ∧ 0 ≤ r ∧ r < n := by
  unfold garretbook_Among.f
  rw [if_neg (by omega)]
  have hA : -n < Int.tmod a n ∧ Int.tmod a n < n := by
    have := Int.tmod_lt_of_pos a hn
    have h2 := Int.tmod_lt_of_pos (-a) hn
    rw [Int.neg_tmod] at h2
    omega
  have hw : wrap64 (Int.tmod a n + n) = Int.tmod a n + n := by
    have := hA.1; have := hA.2
    generalize Int.tmod a n = q at *
    unfold wrap64; omega
  rw [hw]
  exact ⟨_, rfl, Int.tmod_nonneg _ (by omega), Int.tmod_lt_of_pos _ hn⟩
theorem wf_i64 {a : Int} (h : (Lit.int .i64 a).wf = true) : -9223372036854775808 ≤ a ∧ a ≤ 9223372036854775807 := by
  simp [Lit.wf, IntKind.min, IntKind.max, IntKind.signed, IntKind.bits] at h
  omega
theorem len_sum {α : Type} (f : α → Nat) (hf : ∀ x, 1 ≤ f x) : ∀ l : List α, l.length ≤ (l.map f).sum
  | [] => Nat.zero_le _
  | x :: l => by
    rw [List.map_cons, List.sum_cons, List.length_cons]
    have := len_sum f hf l
    have := hf x
    omega
theorem works_told {k : Nat} (hk : 30 ≤ k) : garretlaw19_works.f k = some true :=
  at_rounds (fun k => garretlaw19_works.mono k) hk (by decide +kernel)
theorem short_l0 (l : List Nd) (hl : l.length ≤ 1048576) : ∀ (d i : Nat), i + d = l.length →
    ∃ b, (∀ k, d < k → garretlaw19_short.l0 k l (i : Int) = some b) ∧ (b = true → ∀ x ∈ l.drop i, x.f6.length ≤ 60) := by
  intro d
  induction d with
  | zero =>
    intro i hi
    refine ⟨true, fun k hk => ?_, fun _ x hx => ?_⟩
    · obtain ⟨k, rfl⟩ : ∃ q, k = q + 1 := ⟨k - 1, by omega⟩
      rw [garretlaw19_short.l0, if_neg (by omega)]
    · rw [List.drop_eq_nil_of_le (by omega)] at hx; simp at hx
  | succ d ih =>
    intro i hi
    obtain ⟨b, hb, hb'⟩ := ih (i + 1) (by omega)
    have hlt : i < l.length := by omega
    have hw : wrap64 ((i : Int) + 1) = ((i + 1 : Nat) : Int) := by unfold wrap64; omega
    by_cases h60 : l[i].f6.length ≤ 60
    · refine ⟨b, fun k hk => ?_, fun hbt x hx => ?_⟩
      · obtain ⟨k, rfl⟩ : ∃ q, k = q + 1 := ⟨k - 1, by omega⟩
        rw [garretlaw19_short.l0, if_pos (by omega), if_pos (by omega), rd_nd l i hlt, if_neg (by omega), hw]
        exact hb k (by omega)
      · rw [List.drop_eq_getElem_cons hlt] at hx
        rcases List.mem_cons.1 hx with rfl | hx
        · exact h60
        · exact hb' hbt x hx
    · refine ⟨false, fun k hk => ?_, fun h => by cases h⟩
      obtain ⟨k, rfl⟩ : ∃ q, k = q + 1 := ⟨k - 1, by omega⟩
      rw [garretlaw19_short.l0, if_pos (by omega), if_pos (by omega), rd_nd l i hlt, if_pos (by omega)]
theorem short_told (l : List Nd) (hl : l.length ≤ 1048576) : ∃ b, (∀ k, l.length + 1 < k → garretlaw19_short.f k l = some b) ∧ (b = true → ∀ x ∈ l, x.f6.length ≤ 60) := by
  obtain ⟨b, hb, hb'⟩ := short_l0 l hl l.length 0 (by omega)
  have hj : ∀ k, l.length + 1 < k → garretlaw19_short.j0 k l false = some b := fun k hk => by
    obtain ⟨k, rfl⟩ : ∃ q, k = q + 1 := ⟨k - 1, by omega⟩
    rw [garretlaw19_short.j0, if_neg (by decide)]
    exact hb k (by omega)
  by_cases c1 : (l.length : Int) > 60
  · by_cases c2 : (l.length : Int) ≤ 4096
    · refine ⟨false, fun k hk => ?_, fun h => by cases h⟩
      obtain ⟨k, rfl⟩ : ∃ q, k = q + 1 := ⟨k - 1, by omega⟩
      unfold garretlaw19_short.f
      rw [if_pos c1, decide_eq_true c2, garretlaw19_short.j0, if_pos rfl]
    · refine ⟨b, fun k hk => ?_, by simpa using hb'⟩
      unfold garretlaw19_short.f
      rw [if_pos c1, decide_eq_false c2]
      exact hj k hk
  · refine ⟨b, fun k hk => ?_, by simpa using hb'⟩
    unfold garretlaw19_short.f
    rw [if_neg c1]
    exact hj k hk
theorem rsame_l0 (x : Nd) (hl : x.f6.length ≤ 5000) : ∀ (m i k : Nat), i + m = x.f6.length → m < k → garretref18_Same.l0 k (i : Int) x.f0 x.f1 x.f2 x.f3 x.f4 x.f5 x.f6 x.f7 x.f8 x.f0 x.f1 x.f2 x.f3 x.f4 x.f5 x.f6 x.f7 x.f8 = some true := by
  intro m
  induction m with
  | zero =>
    intro i k hi hk
    obtain ⟨k, rfl⟩ : ∃ q, k = q + 1 := ⟨k - 1, by omega⟩
    rw [garretref18_Same.l0, if_neg (by omega), if_pos rfl, if_pos rfl, if_pos rfl, if_pos rfl, if_pos rfl, if_pos rfl, if_pos rfl]
    simp
  | succ m ih =>
    intro i k hi hk
    obtain ⟨k, rfl⟩ : ∃ q, k = q + 1 := ⟨k - 1, by omega⟩
    have hw : wrap64 ((i : Int) + 1) = ((i + 1 : Nat) : Int) := by unfold wrap64; omega
    rw [garretref18_Same.l0, if_pos (by omega), if_pos (by omega), if_pos (by omega), if_pos rfl, hw]
    exact ih (i + 1) k (by omega) (by omega)
theorem rsame (x : Nd) (hl : x.f6.length ≤ 5000) {k : Nat} (hk : 6000 ≤ k) : garretref18_Same.f k x.f0 x.f1 x.f2 x.f3 x.f4 x.f5 x.f6 x.f7 x.f8 x.f0 x.f1 x.f2 x.f3 x.f4 x.f5 x.f6 x.f7 x.f8 = some true := by
  unfold garretref18_Same.f
  rw [if_pos rfl]
  exact rsame_l0 x hl x.f6.length 0 k (by omega) (by omega)
theorem nodes_l0 (l : List Nd) (hl : l.length ≤ 1048576) (h6 : ∀ x ∈ l, x.f6.length ≤ 5000) : ∀ (m i k : Nat), i + m = l.length → m + 6000 < k → garretlaw19_sameNodes.l0 k l l (i : Int) = some true := by
  intro m
  induction m with
  | zero =>
    intro i k hi hk
    obtain ⟨k, rfl⟩ : ∃ q, k = q + 1 := ⟨k - 1, by omega⟩
    rw [garretlaw19_sameNodes.l0, if_neg (by omega)]
  | succ m ih =>
    intro i k hi hk
    obtain ⟨k, rfl⟩ : ∃ q, k = q + 1 := ⟨k - 1, by omega⟩
    have hlt : i < l.length := by omega
    have hw : wrap64 ((i : Int) + 1) = ((i + 1 : Nat) : Int) := by unfold wrap64; omega
    have hs := rsame l[i] (h6 _ (List.getElem_mem hlt)) (k := k) (by omega)
    rw [garretlaw19_sameNodes.l0, if_pos (by omega), if_pos (by omega), if_pos (by omega), rd_nd l i hlt, bnd hs, if_pos rfl, hw]
    exact ih (i + 1) k (by omega) (by omega)
theorem nodes_same (l : List Nd) (hl : l.length ≤ 1048576) (h6 : ∀ x ∈ l, x.f6.length ≤ 5000) {k : Nat} (hk : 2000000 ≤ k) : garretlaw19_sameNodes.f k l l = some true := by
  unfold garretlaw19_sameNodes.f
  rw [if_pos rfl]
  exact nodes_l0 l hl h6 l.length 0 k (by omega) (by omega)
theorem back_j1 {k : Nat} (hk : 3000001 ≤ k) (s : ByteArray) : garretlaw19_TreeBack.j1 k s = some true := by
  obtain ⟨k, rfl⟩ : ∃ q, k = q + 1 := ⟨k - 1, by omega⟩
  rw [garretlaw19_TreeBack.j1]
  rcases tdecode_told s (k := k) (by omega) with ⟨l, hr, hg, hl, hz, hri, hb⟩ | hr
  · rw [bnd hr]
    dsimp only
    rw [if_pos rfl, bnd (tencode_fwd l hg hl hri s hb hz (by omega))]
    dsimp only
    rw [if_pos rfl]
    simp
  · rw [bnd hr]
    dsimp only
    rw [if_neg (by decide)]
theorem TreeBack : garretlaw19_TreeBack.Pure := by
  intro l s at_ _ _ hat hbulk
  obtain ⟨q0, q1⟩ := wf_i64 hat
  have hl : l.length ≤ 1048576 := by
    refine Nat.le_trans (len_sum _ (fun x => ?_) l) (Nat.le_trans (Nat.le_trans (Nat.le_succ _) (Nat.le_add_right _ _)) hbulk)
    exact Nat.le_add_left _ _
  clear hbulk
  refine ⟨4000001, ?_⟩
  unfold garretlaw19_TreeBack.f
  rw [bnd (works_told (by omega)), if_pos rfl]
  obtain ⟨b, hb, hb'⟩ := short_told l hl
  rw [bnd (hb 4000001 (by omega))]
  cases b with
  | false => rw [if_neg (by decide), garretlaw19_TreeBack.j0, if_pos rfl]
  | true =>
    have h60 := hb' rfl
    rw [if_pos rfl]
    by_cases hs : (s.size : Int) > 10000
    · rw [decide_eq_true hs, garretlaw19_TreeBack.j0, if_pos rfl]
    · rw [decide_eq_false hs, garretlaw19_TreeBack.j0, if_neg (by decide)]
      obtain ⟨t, e, he, ht⟩ := tencode_told l hl (fun x hx => Nat.le_trans (h60 x hx) (by decide)) (k := 4000000) (by omega)
      rw [bnd he]
      dsimp only
      by_cases h0 : e = 0
      · obtain ⟨hg, h4, hz, hbt, hri⟩ := ht h0
        have hpos : 0 < t.size := by rw [← bytesOf_size, hbt]; exact tEnc_pos l
        rw [if_pos h0, bnd (tdecode_fwd l hg h4 hri t hbt hz (by omega))]
        dsimp only
        obtain ⟨r, hr, r0, r1⟩ := among_told at_ (t.size : Int) q0 q1 (by omega) (by omega)
        have hcut := tdecode_cut l hg h4 t (t.extract 0 r.toNat) hbt ((bytesOf t).drop r.toNat)
          (by intro h; have := List.drop_eq_nil_iff.1 h; rw [bytesOf_size] at this; omega)
          (by rw [ext_take, List.take_append_drop]) (k := 4000000) (by omega)
        rw [bnd hr, if_pos r0, if_pos (by omega), bnd hcut]
        dsimp only
        rw [if_pos rfl, bnd (nodes_same l hl (fun x hx => Nat.le_trans (h60 x hx) (by decide)) (by omega)), if_pos rfl, if_pos rfl]
        exact back_j1 (by omega) s
      · rw [if_neg h0]
        exact back_j1 (by omega) s
end Go.Proofs.Ytnlphphaajkjpaa.Pure
