/- NodeSame, the plain part: two nodes are the same just if all their parts are; a part turned is another one; fresh files have one name, size and time. -/
import Derived.Test.YtnlphphaajkjpaaQNodSx6
namespace Go.Proofs.Ytnlphphaajkjpaa.Pure
open Go.RowKit Go.Proofs.Ytnlphphaajkjpaa.QNodS Go.Proofs.YtnlphphaajkjpaaW.PrintWords Go.Proofs.YtnlphphaajkjpaaW.PrintLast Go.Proofs.YtnlphphaajkjpaaW.PrintMore
set_option linter.unusedVariables false

theorem bnd {α β : Type} {a : Option α} {x : α} {f : α → Option β} (h : a = some x) : a.bind f = f x := by rw [h]; rfl
theorem toList_eq {a b : ByteArray} : a.toList = b.toList ↔ a = b := by
  constructor
  · intro h
    rw [ByteArray.toList_eq, ByteArray.toList_eq] at h
    exact ByteArray.ext (Array.toList_inj.mp h)
  · intro h; rw [h]
theorem wf_i64 {a : Int} (h : (Lit.int .i64 a).wf = true) : -9223372036854775808 ≤ a ∧ a ≤ 9223372036854775807 := by
  simp [Lit.wf, IntKind.min, IntKind.max, IntKind.signed, IntKind.bits] at h
  omega
theorem equal_l0 (l m : List ByteArray) (hlm : l.length = m.length) (hl : l.length < 4611686018427387904) : ∀ (d i k : Nat), i + d = l.length → d < k →
    ∃ b, slices_Equal_string_string.l0 k l m (l.length : Int) (i : Int) = some b ∧ (b = true ↔ l.drop i = m.drop i) := by
  intro d
  induction d with
  | zero =>
    intro i k hi hk
    obtain ⟨k, rfl⟩ : ∃ q, k = q + 1 := ⟨k - 1, by omega⟩
    refine ⟨true, by rw [slices_Equal_string_string.l0, if_neg (by omega)], ?_⟩
    rw [List.drop_of_length_le (by omega), List.drop_of_length_le (by omega)]
    simp
  | succ d ih =>
    intro i k hi hk
    obtain ⟨k, rfl⟩ : ∃ q, k = q + 1 := ⟨k - 1, by omega⟩
    have h1 : i < l.length := by omega
    have h2 : i < m.length := by omega
    have hw : wrap64 ((i : Int) + 1) = ((i + 1 : Nat) : Int) := by unfold wrap64; omega
    have r1 : rdOf ByteArray.empty l (i : Int) = l[i] := by
      unfold rdOf; rw [Int.toNat_natCast, List.getD_eq_getElem?_getD, List.getElem?_eq_getElem h1]; rfl
    have r2 : rdOf ByteArray.empty m (i : Int) = m[i] := by
      unfold rdOf; rw [Int.toNat_natCast, List.getD_eq_getElem?_getD, List.getElem?_eq_getElem h2]; rfl
    rw [slices_Equal_string_string.l0, if_pos (by omega), if_pos (by omega), if_pos (by omega), if_pos (by omega), r1, r2]
    have key : (l.drop i = m.drop i) ↔ (l[i] = m[i] ∧ l.drop (i + 1) = m.drop (i + 1)) := by
      rw [List.drop_eq_getElem_cons h1, List.drop_eq_getElem_cons h2, List.cons.injEq]
    by_cases he : l[i] = m[i]
    · rw [if_pos (by rw [he]), hw]
      obtain ⟨b, hb, hb'⟩ := ih (i + 1) k (by omega) (by omega)
      exact ⟨b, hb, by rw [hb', key]; exact ⟨fun q => ⟨he, q⟩, fun q => q.2⟩⟩
    · rw [if_neg (fun h => he (toList_eq.1 h))]
      exact ⟨false, rfl, by rw [key]; exact ⟨fun q => (by cases q), fun q => absurd q.1 he⟩⟩
theorem equal_told (l m : List ByteArray) (hl : l.length < 4611686018427387904) {k : Nat} (hk : l.length < k) : ∃ b, slices_Equal_string_string.f k l m = some b ∧ (b = true ↔ l = m) := by
  unfold slices_Equal_string_string.f
  by_cases h : (l.length : Int) = (m.length : Int)
  · rw [if_pos h]
    obtain ⟨b, hb, hb'⟩ := equal_l0 l m (by omega) hl l.length 0 k (by omega) hk
    exact ⟨b, hb, by rw [hb']; simp⟩
  · rw [if_neg h]
    refine ⟨false, rfl, ?_⟩
    simp
    intro e
    rw [e] at h
    exact h rfl
theorem same_told (x y : S24) (hl : x.f6.length < 4611686018427387904) {k : Nat} (hk : x.f6.length < k) : ∃ b, node_Same.f k x.f0 x.f1 x.f2 x.f3 x.f4 x.f5 x.f6 x.f7 x.f8 y.f0 y.f1 y.f2 y.f3 y.f4 y.f5 y.f6 y.f7 y.f8 = some b ∧ (b = true ↔ x = y) := by
  obtain ⟨b, hb, hb'⟩ := equal_told x.f6 y.f6 hl hk
  unfold node_Same.f
  by_cases h : (x.f1 == y.f1 && (x.f2 == y.f2 && (x.f3 == y.f3 && (x.f4 == y.f4 && (x.f5 == y.f5 && (x.f0.toList == y.f0.toList && (x.f7.toList == y.f7.toList && (x.f8.toList == y.f8.toList)))))))) = true
  · rw [if_pos h, bnd hb]
    refine ⟨b, rfl, ?_⟩
    simp only [Bool.and_eq_true, beq_iff_eq, toList_eq] at h
    obtain ⟨h1, h2, h3, h4, h5, h0, h7, h8⟩ := h
    rw [hb']
    constructor
    · intro h6
      cases x; cases y
      simp_all
    · intro e; rw [e]
  · rw [if_neg h]
    refine ⟨false, rfl, ?_⟩
    simp only [Bool.false_eq_true, false_iff]
    intro e
    apply h
    rw [e]
    simp
theorem fresh_told (x y : S24) : ∃ b, node_Fresh.f x.f0 x.f1 x.f2 x.f3 x.f4 x.f5 x.f6 x.f7 x.f8 y.f0 y.f1 y.f2 y.f3 y.f4 y.f5 y.f6 y.f7 y.f8 = some b ∧ (b = true ↔ x.f1 = 1 ∧ y.f1 = 1 ∧ x.f0 = y.f0 ∧ x.f5 = y.f5 ∧ x.f3 = y.f3 ∧ x.f4 = y.f4) := by
  unfold node_Fresh.f
  by_cases h1 : x.f1 = 1
  · rw [if_pos h1]
    by_cases h2 : y.f1 = 1
    · rw [if_pos h2]
      by_cases h3 : x.f0.toList = y.f0.toList
      · rw [if_pos h3]
        by_cases h4 : x.f5 = y.f5
        · rw [if_pos h4]
          by_cases h5 : x.f3 = y.f3
          · rw [if_pos h5]
            refine ⟨_, rfl, ?_⟩
            simp [h1, h2, toList_eq.1 h3, h4, h5]
          · rw [if_neg h5]; exact ⟨false, rfl, by simp [h5]⟩
        · rw [if_neg h4]; exact ⟨false, rfl, by simp [h4]⟩
      · rw [if_neg h3]; exact ⟨false, rfl, ⟨fun q => (by cases q), fun q => (by exfalso; apply h3; simp_all)⟩⟩
    · rw [if_neg h2]; exact ⟨false, rfl, by simp [h2]⟩
  · rw [if_neg h1]; exact ⟨false, rfl, by simp [h1]⟩
theorem xor_ne (a : Int) (h0 : -9223372036854775808 ≤ a) (h1 : a ≤ 9223372036854775807) : a ≠ Go.bits .xor .i64 a 1 := by
  intro h
  have h2 : (BitVec.ofInt 64 a).toInt = a := by
    rw [BitVec.toInt_ofInt, Int.bmod_def]
    omega
  have h3 : Go.bits .xor .i64 a 1 = (BitVec.ofInt 64 a ^^^ BitVec.ofInt 64 1).toInt := by
    show IntKind.i64.wrap (((BitVec.ofInt 64 a ^^^ BitVec.ofInt 64 1).toNat : Nat) : Int) = _
    generalize BitVec.ofInt 64 a ^^^ BitVec.ofInt 64 1 = X
    have := X.isLt
    rw [IntKind.wrap_i64, BitVec.toInt_eq_toNat_cond]
    split <;> omega
  rw [h3] at h
  have h4 : BitVec.ofInt 64 a = BitVec.ofInt 64 a ^^^ BitVec.ofInt 64 1 := by
    apply BitVec.eq_of_toInt_eq
    rw [h2]; exact h
  have h5 : BitVec.ofInt 64 a ^^^ BitVec.ofInt 64 a = BitVec.ofInt 64 a ^^^ (BitVec.ofInt 64 a ^^^ BitVec.ofInt 64 1) := congrArg (BitVec.ofInt 64 a ^^^ ·) h4
  rw [BitVec.xor_self, ← BitVec.xor_assoc, BitVec.xor_self, BitVec.zero_xor] at h5
  exact absurd h5 (by decide)
theorem app_ne (a : ByteArray) : a ≠ a ++ (⟨#[120]⟩ : ByteArray) := by
  intro h
  have := congrArg ByteArray.size h
  rw [ByteArray.size_append] at this
  have h1 : (⟨#[120]⟩ : ByteArray).size = 1 := rfl
  omega
theorem list_ne (a : List ByteArray) (z : ByteArray) : a ≠ a ++ [z] := by
  intro h
  have := congrArg List.length h
  simp at this
theorem works_told {k : Nat} (hk : 30 ≤ k) : garretlaw18_works.f k = some true :=
  at_rounds (fun k => garretlaw18_works.mono k) hk (by decide +kernel)
/-- What is asked behind a turned part: it isn't the same; and fresh files have one size, time and name. -/
theorem tail_told (x y z : S24) (hz : x ≠ z) (hl : x.f6.length < 4611686018427387904) {k : Nat} (hk : x.f6.length < k) :
    ((node_Same.f k x.f0 x.f1 x.f2 x.f3 x.f4 x.f5 x.f6 x.f7 x.f8 z.f0 z.f1 z.f2 z.f3 z.f4 z.f5 z.f6 z.f7 z.f8).bind fun t => (if t = true then (none) else ((node_Fresh.f x.f0 x.f1 x.f2 x.f3 x.f4 x.f5 x.f6 x.f7 x.f8 y.f0 y.f1 y.f2 y.f3 y.f4 y.f5 y.f6 y.f7 y.f8).bind fun u => (if u = true then (if x.f5 = y.f5 then (if x.f3 = y.f3 then (if x.f0.toList = y.f0.toList then (some (x.f1 == 1)) else (none)) else (none)) else (none)) else (some true))))) = some true := by
  obtain ⟨b, hb, hb'⟩ := same_told x z hl hk
  obtain ⟨c, hc, hc'⟩ := fresh_told x y
  rw [bnd hb, if_neg (fun h => hz (hb'.1 h)), bnd hc]
  cases c with
  | false => rw [if_neg (by decide)]
  | true =>
    obtain ⟨h1, h2, h3, h4, h5, h6⟩ := hc'.1 rfl
    rw [if_pos rfl, if_pos h4, if_pos h5, if_pos (by rw [h3]), h1]
    rfl
theorem NodeSame : garretlaw18_NodeSame.Pure := by
  intro a0 a1 a2 a3 a4 a5 l6 a7 a8 b0 b1 b2 b3 b4 b5 m6 b7 b8 which o0 o1 o2 o3 o4 o5 o6 o7 o8 q0 q1 q2 q3 q4 q5 q6 q7 q8 hw
  obtain ⟨x, hx⟩ : ∃ x : S24, x = ⟨a0, a1, a2, a3, a4, a5, l6, a7, a8⟩ := ⟨_, rfl⟩
  obtain ⟨y, hy⟩ : ∃ y : S24, y = ⟨b0, b1, b2, b3, b4, b5, m6, b7, b8⟩ := ⟨_, rfl⟩
  have hlx : x.f6.length ≤ 8796093021952 := by rw [hx]; have := o6.2.1; show l6.length ≤ _; omega
  have hly : y.f6.length ≤ 8796093021952 := by rw [hy]; have := q6.2.1; show m6.length ≤ _; omega
  refine ⟨x.f6.length + y.f6.length + 100, ?_⟩
  obtain ⟨s1, g1, g1'⟩ := same_told x x (by omega) (k := x.f6.length + y.f6.length + 100) (by omega)
  obtain ⟨s2, g2, g2'⟩ := same_told x y (by omega) (k := x.f6.length + y.f6.length + 100) (by omega)
  obtain ⟨s3, g3, g3'⟩ := same_told y x (by omega) (k := x.f6.length + y.f6.length + 100) (by omega)
  obtain ⟨f1, p1, p1'⟩ := fresh_told x y
  obtain ⟨f2, p2, p2'⟩ := fresh_told y x
  have e1 : s1 = true := g1'.2 rfl
  have e2 : s2 = s3 := by
    rw [Bool.eq_iff_iff, g2', g3']
    exact eq_comm
  have e3 : f1 = f2 := by
    rw [Bool.eq_iff_iff, p1', p2']
    constructor
    · rintro ⟨u1, u2, u3, u4, u5, u6⟩; exact ⟨u2, u1, u3.symm, u4.symm, u5.symm, u6.symm⟩
    · rintro ⟨u1, u2, u3, u4, u5, u6⟩; exact ⟨u2, u1, u3.symm, u4.symm, u5.symm, u6.symm⟩
  subst e1 e2 e3
  have am : ∃ r, garretbook_Among.f which 9 = some r := by
    unfold garretbook_Among.f
    rw [if_neg (by decide)]
    exact ⟨_, rfl⟩
  obtain ⟨r, hr⟩ := am
  have T := tail_told x y
  have hk : x.f6.length < x.f6.length + y.f6.length + 99 := by omega
  have hl : x.f6.length < 4611686018427387904 := by omega
  have w1 := wf_i64 o1; have w2 := wf_i64 o2; have w3 := wf_i64 o3; have w4 := wf_i64 o4; have w5 := wf_i64 o5
  rw [hx, hy] at g1 g2 g3 p1 p2
  unfold garretlaw18_NodeSame.f
  rw [hx, hy]
  rw [bnd (works_told (by omega)), if_pos rfl, bnd g1, if_pos rfl, bnd g2, bnd g3, if_neg (by simp), bnd p1, bnd p2]
  subst hx hy
  show garretlaw18_NodeSame.j0 (l6.length + m6.length + 99 + 1) which (f1 != f1) a0 a1 a2 a3 a4 a5 l6 a7 a8 b0 b1 b2 b3 b4 b5 m6 b7 b8 = some true
  rw [garretlaw18_NodeSame.j0, if_neg (by simp), bnd hr]
  by_cases c0 : r = 0
  · rw [if_pos c0, if_pos (by omega)]
    exact T ⟨a0 ++ (⟨#[120]⟩ : ByteArray), a1, a2, a3, a4, a5, l6, a7, a8⟩ (by simp [app_ne]) hl hk
  rw [if_neg c0]
  by_cases c1 : r = 1
  · rw [if_pos c1]
    exact T ⟨a0, Go.bits .xor .i64 a1 1, a2, a3, a4, a5, l6, a7, a8⟩ (by have := xor_ne a1 w1.1 w1.2; simpa using this) hl hk
  rw [if_neg c1]
  by_cases c2 : r = 2
  · rw [if_pos c2]
    exact T ⟨a0, a1, Go.bits .xor .i64 a2 1, a3, a4, a5, l6, a7, a8⟩ (by have := xor_ne a2 w2.1 w2.2; simpa using this) hl hk
  rw [if_neg c2]
  by_cases c3 : r = 3
  · rw [if_pos c3]
    exact T ⟨a0, a1, a2, Go.bits .xor .i64 a3 1, a4, a5, l6, a7, a8⟩ (by have := xor_ne a3 w3.1 w3.2; simpa using this) hl hk
  rw [if_neg c3]
  by_cases c4 : r = 4
  · rw [if_pos c4]
    exact T ⟨a0, a1, a2, a3, Go.bits .xor .i64 a4 1, a5, l6, a7, a8⟩ (by have := xor_ne a4 w4.1 w4.2; simpa using this) hl hk
  rw [if_neg c4]
  by_cases c5 : r = 5
  · rw [if_pos c5]
    exact T ⟨a0, a1, a2, a3, a4, Go.bits .xor .i64 a5 1, l6, a7, a8⟩ (by have := xor_ne a5 w5.1 w5.2; simpa using this) hl hk
  rw [if_neg c5]
  have h6 := o6.2.1
  by_cases c6 : r = 6
  · rw [if_pos c6]
    show (if ([] : List ByteArray).length + l6.length < 8796093022208 then ((some (([] : List ByteArray) ++ l6)).bind fun q => if q.length < 8796093022208 then _ else none) else none) = some true
    rw [if_pos (by simp; omega)]
    show (if l6.length < 8796093022208 then _ else none) = some true
    rw [if_pos (by omega)]
    exact T ⟨a0, a1, a2, a3, a4, a5, l6 ++ [(⟨#[120]⟩ : ByteArray)], a7, a8⟩ (by simp) hl hk
  rw [if_neg c6]
  by_cases c7 : r = 7
  · rw [if_pos c7, if_pos (by omega)]
    exact T ⟨a0, a1, a2, a3, a4, a5, l6, a7 ++ (⟨#[120]⟩ : ByteArray), a8⟩ (by simp [app_ne]) hl hk
  rw [if_neg c7, if_pos (by omega)]
  exact T ⟨a0, a1, a2, a3, a4, a5, l6, a7, a8 ++ (⟨#[120]⟩ : ByteArray)⟩ (by simp [app_ne]) hl hk
end Go.Proofs.Ytnlphphaajkjpaa.Pure
