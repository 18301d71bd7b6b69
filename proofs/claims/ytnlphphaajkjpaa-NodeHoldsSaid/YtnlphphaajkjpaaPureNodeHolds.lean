/- NodeHolds, the plain part: whether two nodes are the same, or fresh, is the document's; so is the node of an entry: its name is what stands behind the last slash. -/
import Derived.Test.YtnlphphaajkjpaaQNodHx8
namespace Go.Proofs.Ytnlphphaajkjpaa.Pure
open Go.RowKit Go.Proofs.Ytnlphphaajkjpaa.QNodH Go.Proofs.YtnlphphaajkjpaaW.PrintWords Go.Proofs.YtnlphphaajkjpaaW.PrintLast Go.Proofs.YtnlphphaajkjpaaW.PrintMore
set_option linter.unusedVariables false

theorem bnd {α β : Type} {a : Option α} {x : α} {f : α → Option β} (h : a = some x) : a.bind f = f x := by rw [h]; rfl
theorem toList_eq {a b : ByteArray} : a.toList = b.toList ↔ a = b := by
  constructor
  · intro h
    rw [ByteArray.toList_eq, ByteArray.toList_eq] at h
    exact ByteArray.ext (Array.toList_inj.mp h)
  · intro h; rw [h]
theorem wf_i64 {a : Int} (h : (Lit.int .i64 a).wf = true) : -9223372036854775808 ≤ a ∧ a ≤ 9223372036854775807 := by
  simp [Lit.wf, IntKind.min, IntKind.max, IntKind.signed, IntKind.bits] at h
  omega
theorem equal_l0 (l m : List ByteArray) (hlm : l.length = m.length) (hl : l.length < 4611686018427387904) : ∀ (d i k : Nat), i + d = l.length → d < k →
    ∃ b, slices_Equal_string_string.l0 k l m (l.length : Int) (i : Int) = some b ∧ (b = true ↔ l.drop i = m.drop i) := by
  intro d
  induction d with
  | zero =>
    intro i k hi hk
    obtain ⟨k, rfl⟩ : ∃ q, k = q + 1 := ⟨k - 1, by omega⟩
    refine ⟨true, by rw [slices_Equal_string_string.l0, if_neg (by omega)], ?_⟩
    rw [List.drop_of_length_le (by omega), List.drop_of_length_le (by omega)]
    simp
  | succ d ih =>
    intro i k hi hk
    obtain ⟨k, rfl⟩ : ∃ q, k = q + 1 := ⟨k - 1, by omega⟩
    have h1 : i < l.length := by omega
    have h2 : i < m.length := by omega
    have hw : wrap64 ((i : Int) + 1) = ((i + 1 : Nat) : Int) := by unfold wrap64; omega
    have r1 : rdOf ByteArray.empty l (i : Int) = l[i] := by
      unfold rdOf; rw [Int.toNat_natCast, List.getD_eq_getElem?_getD, List.getElem?_eq_getElem h1]; rfl
    have r2 : rdOf ByteArray.empty m (i : Int) = m[i] := by
      unfold rdOf; rw [Int.toNat_natCast, List.getD_eq_getElem?_getD, List.getElem?_eq_getElem h2]; rfl
    rw [slices_Equal_string_string.l0, if_pos (by omega), if_pos (by omega), if_pos (by omega), if_pos (by omega), r1, r2]
    have key : (l.drop i = m.drop i) ↔ (l[i] = m[i] ∧ l.drop (i + 1) = m.drop (i + 1)) := by
      rw [List.drop_eq_getElem_cons h1, List.drop_eq_getElem_cons h2, List.cons.injEq]
    by_cases he : l[i] = m[i]
    · rw [if_pos (by rw [he]), hw]
      obtain ⟨b, hb, hb'⟩ := ih (i + 1) k (by omega) (by omega)
      exact ⟨b, hb, by rw [hb', key]; exact ⟨fun q => ⟨he, q⟩, fun q => q.2⟩⟩
    · rw [if_neg (fun h => he (toList_eq.1 h))]
      exact ⟨false, rfl, by rw [key]; exact ⟨fun q => (by cases q), fun q => absurd q.1 he⟩⟩
theorem equal_told (l m : List ByteArray) (hl : l.length < 4611686018427387904) {k : Nat} (hk : l.length < k) : ∃ b, slices_Equal_string_string.f k l m = some b ∧ (b = true ↔ l = m) := by
  unfold slices_Equal_string_string.f
  by_cases h : (l.length : Int) = (m.length : Int)
  · rw [if_pos h]
    obtain ⟨b, hb, hb'⟩ := equal_l0 l m (by omega) hl l.length 0 k (by omega) hk
    exact ⟨b, hb, by rw [hb']; simp⟩
  · rw [if_neg h]
    refine ⟨false, rfl, ?_⟩
    simp
    intro e
    rw [e] at h
    exact h rfl
theorem same_told (x y : S24) (hl : x.f6.length < 4611686018427387904) {k : Nat} (hk : x.f6.length < k) : ∃ b, node_Same.f k x.f0 x.f1 x.f2 x.f3 x.f4 x.f5 x.f6 x.f7 x.f8 y.f0 y.f1 y.f2 y.f3 y.f4 y.f5 y.f6 y.f7 y.f8 = some b ∧ (b = true ↔ x = y) := by
  obtain ⟨b, hb, hb'⟩ := equal_told x.f6 y.f6 hl hk
  unfold node_Same.f
  by_cases h : (x.f1 == y.f1 && (x.f2 == y.f2 && (x.f3 == y.f3 && (x.f4 == y.f4 && (x.f5 == y.f5 && (x.f0.toList == y.f0.toList && (x.f7.toList == y.f7.toList && (x.f8.toList == y.f8.toList)))))))) = true
  · rw [if_pos h, bnd hb]
    refine ⟨b, rfl, ?_⟩
    simp only [Bool.and_eq_true, beq_iff_eq, toList_eq] at h
    obtain ⟨h1, h2, h3, h4, h5, h0, h7, h8⟩ := h
    rw [hb']
    constructor
    · intro h6
      cases x; cases y
      simp_all
    · intro e; rw [e]
  · rw [if_neg h]
    refine ⟨false, rfl, ?_⟩
    simp only [Bool.false_eq_true, false_iff]
    intro e
    apply h
    rw [e]
    simp
theorem fresh_told (x y : S24) : ∃ b, node_Fresh.f x.f0 x.f1 x.f2 x.f3 x.f4 x.f5 x.f6 x.f7 x.f8 y.f0 y.f1 y.f2 y.f3 y.f4 y.f5 y.f6 y.f7 y.f8 = some b ∧ (b = true ↔ x.f1 = 1 ∧ y.f1 = 1 ∧ x.f0 = y.f0 ∧ x.f5 = y.f5 ∧ x.f3 = y.f3 ∧ x.f4 = y.f4) := by
  unfold node_Fresh.f
  by_cases h1 : x.f1 = 1
  · rw [if_pos h1]
    by_cases h2 : y.f1 = 1
    · rw [if_pos h2]
      by_cases h3 : x.f0.toList = y.f0.toList
      · rw [if_pos h3]
        by_cases h4 : x.f5 = y.f5
        · rw [if_pos h4]
          by_cases h5 : x.f3 = y.f3
          · rw [if_pos h5]
            refine ⟨_, rfl, ?_⟩
            simp [h1, h2, toList_eq.1 h3, h4, h5]
          · rw [if_neg h5]; exact ⟨false, rfl, by simp [h5]⟩
        · rw [if_neg h4]; exact ⟨false, rfl, by simp [h4]⟩
      · rw [if_neg h3]; exact ⟨false, rfl, ⟨fun q => (by cases q), fun q => (by exfalso; apply h3; simp_all)⟩⟩
    · rw [if_neg h2]; exact ⟨false, rfl, by simp [h2]⟩
  · rw [if_neg h1]; exact ⟨false, rfl, by simp [h1]⟩
theorem works_told {k : Nat} (hk : 30 ≤ k) : garretlaw18_works.f k = some true :=
  at_rounds (fun k => garretlaw18_works.mono k) hk (by decide +kernel)
theorem rsame_l0 (x y : S24) (hlm : x.f6.length = y.f6.length) (hl : x.f6.length < 4611686018427387904) : ∀ (d i k : Nat), i + d = x.f6.length → d < k →
    ∃ b, garretref18_Same.l0 k (i : Int) x.f0 x.f1 x.f2 x.f3 x.f4 x.f5 x.f6 x.f7 x.f8 y.f0 y.f1 y.f2 y.f3 y.f4 y.f5 y.f6 y.f7 y.f8 = some b ∧ (b = true ↔ x.f6.drop i = y.f6.drop i ∧ x.f0 = y.f0 ∧ x.f1 = y.f1 ∧ x.f2 = y.f2 ∧ x.f3 = y.f3 ∧ x.f4 = y.f4 ∧ x.f5 = y.f5 ∧ x.f7 = y.f7 ∧ x.f8 = y.f8) := by
  intro d
  induction d with
  | zero =>
    intro i k hi hk
    obtain ⟨k, rfl⟩ : ∃ q, k = q + 1 := ⟨k - 1, by omega⟩
    have e0 : x.f6.drop i = y.f6.drop i := by rw [List.drop_of_length_le (by omega), List.drop_of_length_le (by omega)]
    rw [garretref18_Same.l0, if_neg (by omega)]
    by_cases h0 : x.f0.toList = y.f0.toList
    · rw [if_pos h0]
      have h0 := toList_eq.1 h0
      by_cases h1 : x.f1 = y.f1
      · rw [if_pos h1]
        by_cases h2 : x.f2 = y.f2
        · rw [if_pos h2]
          by_cases h3 : x.f3 = y.f3
          · rw [if_pos h3]
            by_cases h4 : x.f4 = y.f4
            · rw [if_pos h4]
              by_cases h5 : x.f5 = y.f5
              · rw [if_pos h5]
                by_cases h7 : x.f7.toList = y.f7.toList
                · rw [if_pos h7]
                  have h7 := toList_eq.1 h7
                  refine ⟨_, rfl, ?_⟩
                  rw [beq_iff_eq, toList_eq]
                  exact ⟨fun q => ⟨e0, h0, h1, h2, h3, h4, h5, h7, q⟩, fun q => q.2.2.2.2.2.2.2.2⟩
                · rw [if_neg h7]
                  exact ⟨false, rfl, ⟨fun q => (by cases q), fun q => absurd (toList_eq.2 q.2.2.2.2.2.2.2.1) h7⟩⟩
              · rw [if_neg h5]
                exact ⟨false, rfl, ⟨fun q => (by cases q), fun q => absurd q.2.2.2.2.2.2.1 h5⟩⟩
            · rw [if_neg h4]
              exact ⟨false, rfl, ⟨fun q => (by cases q), fun q => absurd q.2.2.2.2.2.1 h4⟩⟩
          · rw [if_neg h3]
            exact ⟨false, rfl, ⟨fun q => (by cases q), fun q => absurd q.2.2.2.2.1 h3⟩⟩
        · rw [if_neg h2]
          exact ⟨false, rfl, ⟨fun q => (by cases q), fun q => absurd q.2.2.2.1 h2⟩⟩
      · rw [if_neg h1]
        exact ⟨false, rfl, ⟨fun q => (by cases q), fun q => absurd q.2.2.1 h1⟩⟩
    · rw [if_neg h0]
      exact ⟨false, rfl, ⟨fun q => (by cases q), fun q => absurd (toList_eq.2 q.2.1) h0⟩⟩
  | succ d ih =>
    intro i k hi hk
    obtain ⟨k, rfl⟩ : ∃ q, k = q + 1 := ⟨k - 1, by omega⟩
    have h1 : i < x.f6.length := by omega
    have h2 : i < y.f6.length := by omega
    have hw : wrap64 ((i : Int) + 1) = ((i + 1 : Nat) : Int) := by unfold wrap64; omega
    have r1 : rdOf ByteArray.empty x.f6 (i : Int) = x.f6[i] := by
      unfold rdOf; rw [Int.toNat_natCast, List.getD_eq_getElem?_getD, List.getElem?_eq_getElem h1]; rfl
    have r2 : rdOf ByteArray.empty y.f6 (i : Int) = y.f6[i] := by
      unfold rdOf; rw [Int.toNat_natCast, List.getD_eq_getElem?_getD, List.getElem?_eq_getElem h2]; rfl
    rw [garretref18_Same.l0, if_pos (by omega), if_pos (by omega), if_pos (by omega), r1, r2]
    have key : (x.f6.drop i = y.f6.drop i) ↔ (x.f6[i] = y.f6[i] ∧ x.f6.drop (i + 1) = y.f6.drop (i + 1)) := by
      rw [List.drop_eq_getElem_cons h1, List.drop_eq_getElem_cons h2, List.cons.injEq]
    by_cases he : x.f6[i] = y.f6[i]
    · rw [if_pos (by rw [he]), hw]
      obtain ⟨b, hb, hb'⟩ := ih (i + 1) k (by omega) (by omega)
      exact ⟨b, hb, by rw [hb', key]; exact ⟨fun q => ⟨⟨he, q.1⟩, q.2⟩, fun q => ⟨q.1.2, q.2⟩⟩⟩
    · rw [if_neg (fun h => he (toList_eq.1 h))]
      exact ⟨false, rfl, by rw [key]; exact ⟨fun q => (by cases q), fun q => absurd q.1.1 he⟩⟩
theorem rsame_told (x y : S24) (hl : x.f6.length < 4611686018427387904) {k : Nat} (hk : x.f6.length < k) : ∃ b, garretref18_Same.f k x.f0 x.f1 x.f2 x.f3 x.f4 x.f5 x.f6 x.f7 x.f8 y.f0 y.f1 y.f2 y.f3 y.f4 y.f5 y.f6 y.f7 y.f8 = some b ∧ (b = true ↔ x = y) := by
  unfold garretref18_Same.f
  by_cases h : (x.f6.length : Int) = (y.f6.length : Int)
  · rw [if_pos h]
    obtain ⟨b, hb, hb'⟩ := rsame_l0 x y (by omega) hl x.f6.length 0 k (by omega) hk
    refine ⟨b, hb, ?_⟩
    rw [hb']
    constructor
    · rintro ⟨h6, h0, h1, h2, h3, h4, h5, h7, h8⟩
      cases x; cases y
      simp_all
    · intro e; subst e; exact ⟨rfl, rfl, rfl, rfl, rfl, rfl, rfl, rfl, rfl⟩
  · rw [if_neg h]
    refine ⟨false, rfl, ?_⟩
    simp only [Bool.false_eq_true, false_iff]
    intro e
    rw [e] at h
    exact h rfl
theorem rfresh_told (x y : S24) : garretref18_Fresh.f x.f0 x.f1 x.f2 x.f3 x.f4 x.f5 x.f6 x.f7 x.f8 y.f0 y.f1 y.f2 y.f3 y.f4 y.f5 y.f6 y.f7 y.f8 = node_Fresh.f x.f0 x.f1 x.f2 x.f3 x.f4 x.f5 x.f6 x.f7 x.f8 y.f0 y.f1 y.f2 y.f3 y.f4 y.f5 y.f6 y.f7 y.f8 := rfl
theorem iff_bool {a b : Bool} {p : Prop} (h1 : a = true ↔ p) (h2 : b = true ↔ p) : a = b := by
  cases a <;> cases b <;> simp_all

theorem occ_at (s : ByteArray) (i : Nat) (hi : i < s.size) : Lib.occAt s.data.toList [47] i = decide (bt s (i : Int) = 47) := by
  have hl : i < s.data.toList.length := by simpa using hi
  unfold Lib.occAt
  rw [List.drop_eq_getElem_cons hl]
  have hb : bt s (i : Int) = ((s[i]).toNat : Int) := by
    unfold bt
    simp only [Int.toNat_natCast]
    rw [dif_pos hi]
  have he : s.data.toList[i] = s[i] := by simp [ByteArray.getElem_eq_getElem_data]
  rw [hb, he]
  have h47 : ((s[i]).toNat : Int) = 47 ↔ (47 : UInt8) = s[i] := by
    constructor
    · intro h
      apply UInt8.toNat_inj.1
      show 47 = _
      omega
    · intro h; rw [← h]; rfl
  rw [decide_eq_decide.2 h47]
  by_cases h : (47 : UInt8) = s[i]
  · rw [decide_eq_true h]
    show ((47 : UInt8) == s[i] && true) = true
    rw [← h]
    rfl
  · rw [decide_eq_false h]
    show ((47 : UInt8) == s[i] && true) = false
    rw [Bool.and_true]
    exact beq_eq_false_iff_ne.2 h
theorem last_bounds (l : List UInt8) (k : Nat) : -1 ≤ Lib.lastOcc l [47] k ∧ Lib.lastOcc l [47] k < k := by
  rcases Lib.lastOcc_spec l [47] k with ⟨e, _⟩ | ⟨i, hi, e, _⟩
  · rw [e]; omega
  · rw [e]; omega
/-- The node of an entry, its name known. -/
def nodeOf (n : ByteArray) (kd mo mt ct : Int) (dt : ByteArray) : ByteArray × Int × Int × Int × Int × Int × List ByteArray × ByteArray × ByteArray :=
  if kd = 1 then (n, kd, mo, mt, ct, (dt.size : Int), ([] : List ByteArray), (⟨#[]⟩ : ByteArray), (⟨#[]⟩ : ByteArray)) else if kd = 3 then (n, kd, mo, mt, ct, 0, ([] : List ByteArray), (⟨#[]⟩ : ByteArray), dt) else (n, kd, mo, mt, ct, 0, ([] : List ByteArray), (⟨#[]⟩ : ByteArray), (⟨#[]⟩ : ByteArray))
def nameOf (p : ByteArray) : ByteArray := p.extract (Lib.lastOcc p.data.toList [47] p.size + 1).toNat p.size
theorem rof_l0 (p : ByteArray) (hp : p.size ≤ 140737488351232) (kd mo mt ct : Int) (dt : ByteArray) : ∀ (d i k : Nat), i + d = p.size → d < k →
    garretref18_Of.l0 k (Lib.lastOcc p.data.toList [47] i + 1) (i : Int) p kd mo mt ct dt = some (nodeOf (nameOf p) kd mo mt ct dt) := by
  intro d
  induction d with
  | zero =>
    intro i k hi hk
    obtain ⟨k, rfl⟩ : ∃ q, k = q + 1 := ⟨k - 1, by omega⟩
    obtain rfl : i = p.size := by omega
    have hb := last_bounds p.data.toList p.size
    rw [garretref18_Of.l0, if_neg (by omega), if_pos (by omega), if_pos (by omega)]
    unfold nodeOf nameOf
    by_cases a : kd = 1
    · rw [if_pos a, if_pos a]
    · rw [if_neg a, if_neg a]
      by_cases b : kd = 3
      · rw [if_pos b, if_pos b]
      · rw [if_neg b, if_neg b]
  | succ d ih =>
    intro i k hi hk
    obtain ⟨k, rfl⟩ : ∃ q, k = q + 1 := ⟨k - 1, by omega⟩
    have hw : wrap64 ((i : Int) + 1) = ((i + 1 : Nat) : Int) := by unfold wrap64; omega
    rw [garretref18_Of.l0, if_pos (by omega), if_pos (by omega), hw]
    have ho := occ_at p i (by omega)
    have hn := ih (i + 1) k (by omega) (by omega)
    by_cases c : bt p (i : Int) = 47
    · rw [if_pos c]
      rw [Lib.lastOcc_hit _ _ _ (by rw [ho, decide_eq_true c])] at hn
      rw [show ((i + 1 : Nat) : Int) = (i : Int) + 1 by omega] at hn ⊢
      exact hn
    · rw [if_neg c]
      rw [Lib.lastOcc_miss _ _ _ (by rw [ho, decide_eq_false c])] at hn
      exact hn
theorem rof_told (p : ByteArray) (hp : p.size ≤ 140737488351232) (kd mo mt ct : Int) (dt : ByteArray) {k : Nat} (hk : p.size < k) : garretref18_Of.f k p kd mo mt ct dt = some (nodeOf (nameOf p) kd mo mt ct dt) := by
  unfold garretref18_Of.f
  exact rof_l0 p hp kd mo mt ct dt p.size 0 k (by omega) hk
theorem nof_told (p : ByteArray) (hp : p.size ≤ 140737488351232) (kd mo mt ct : Int) (dt : ByteArray) : node_Of.f p kd mo mt ct dt = some (nodeOf (nameOf p) kd mo mt ct dt) := by
  have hb := last_bounds p.data.toList p.size
  have hl : p.data.toList.length = p.size := by simp
  have e : Lib.lastIndex p.data.toList (⟨#[47]⟩ : ByteArray).data.toList = Lib.lastOcc p.data.toList [47] p.size := by
    unfold Lib.lastIndex
    show (if 1 ≤ p.data.toList.length then Lib.lastOcc p.data.toList [47] (p.data.toList.length - 1 + 1) else -1) = _
    rw [hl]
    by_cases c : 1 ≤ p.size
    · rw [if_pos c, show p.size - 1 + 1 = p.size by omega]
    · rw [if_neg c, show p.size = 0 by omega]; rfl
  unfold node_Of.f strings_LastIndex.f
  rw [if_pos (by omega), e, bnd rfl]
  have hw : wrap64 (Lib.lastOcc p.data.toList [47] p.size + 1) = Lib.lastOcc p.data.toList [47] p.size + 1 := by unfold wrap64; omega
  rw [hw, if_pos (by omega), if_pos (by omega)]
  unfold nodeOf nameOf
  by_cases a : kd = 1
  · rw [if_pos a, if_pos a]
  · rw [if_neg a, if_neg a]
    by_cases b : kd = 3
    · rw [if_pos b, if_pos b]
    · rw [if_neg b, if_neg b]
theorem NodeHolds : garretlaw18_NodeHolds.Pure := by
  intro a0 a1 a2 a3 a4 a5 a6 a7 a8 b0 b1 b2 b3 b4 b5 b6 b7 b8 p kd mo mt ct dt _ _ _ _ _ _ ha6 _ _ _ _ _ _ _ _ _ _ _ hp _ _ _ _ _
  obtain ⟨x, hx⟩ : ∃ x : S24, x = ⟨a0, a1, a2, a3, a4, a5, a6, a7, a8⟩ := ⟨_, rfl⟩
  obtain ⟨y, hy⟩ : ∃ y : S24, y = ⟨b0, b1, b2, b3, b4, b5, b6, b7, b8⟩ := ⟨_, rfl⟩
  obtain ⟨k, hk⟩ : ∃ k, k = 140737488351232 + 100 := ⟨_, rfl⟩
  have hl : x.f6.length < 4611686018427387904 := by rw [hx]; show a6.length < _; omega
  have hlk : x.f6.length < k := by rw [hx]; show a6.length < _; omega
  obtain ⟨s1, g1, e1⟩ := same_told x y hl hlk
  obtain ⟨s2, g2, e2⟩ := rsame_told x y hl hlk
  obtain ⟨s3, g3, e3⟩ := fresh_told x y
  have g4 := (rfresh_told x y).trans g3
  obtain rfl := iff_bool e1 e2
  rw [hx, hy] at g1 g2 g3 g4
  have g5 := nof_told p hp kd mo mt ct dt
  have g6 := rof_told p hp kd mo mt ct dt (k := k) (by omega)
  obtain ⟨n, hn⟩ : ∃ n, nodeOf (nameOf p) kd mo mt ct dt = n := ⟨_, rfl⟩
  have hids : n.2.2.2.2.2.2.1 = [] := by
    rw [← hn]; unfold nodeOf
    repeat' split
    all_goals rfl
  rw [hn] at g5 g6
  obtain ⟨n0, n1, n2, n3, n4, n5, n6, n7, n8⟩ := n
  obtain rfl : n6 = [] := hids
  obtain ⟨s5, g7, e7⟩ := rsame_told (⟨n0, n1, n2, n3, n4, n5, [], n7, n8⟩ : S24) ⟨n0, n1, n2, n3, n4, n5, [], n7, n8⟩ (by show 0 < 4611686018427387904; decide) (k := k) (by show 0 < k; omega)
  obtain rfl : s5 = true := e7.2 rfl
  refine ⟨k, ?_⟩
  unfold garretlaw18_NodeHolds.f
  rw [bnd g1, bnd g2, if_pos (by simp), bnd g3, bnd g4, if_pos (by simp), bnd g5, bnd g6, bnd g7, if_pos rfl, bnd (works_told (by omega))]
end Go.Proofs.Ytnlphphaajkjpaa.Pure
