/- Nodes, the plain part: which may be; their bytes; what is read. -/
import Derived.Test.YtnlphphaajkjpaaZTreBCodec
import Derived.Test.YtnlphphaajkjpaaQTreBx6
namespace Go.Proofs.Ytnlphphaajkjpaa.QTreB
open Go.RowKit Go.Proofs.YtnlphphaajkjpaaW.PrintWords Go.Proofs.YtnlphphaajkjpaaW.PrintLast Go.Proofs.YtnlphphaajkjpaaW.PrintMore
set_option linter.unusedVariables false

theorem toList_nil (s : ByteArray) : s.toList = ([] : List UInt8) ↔ s = (⟨#[]⟩ : ByteArray) := by
  rw [ByteArray.toList_eq]
  constructor
  · intro h
    apply ByteArray.ext
    apply Array.toList_inj.mp
    exact h
  · intro h; rw [h]
theorem within_told (a b : Int) : node_within.f a b = some (decide (0 ≤ a ∧ a ≤ b)) := by
  unfold node_within.f
  by_cases h : a ≥ 0
  · rw [if_pos h]
    by_cases h2 : a ≤ b
    · rw [decide_eq_true h2, decide_eq_true ⟨h, h2⟩]
    · rw [decide_eq_false h2, decide_eq_false (fun x => h2 x.2)]
  · rw [if_neg h, decide_eq_false (fun x => h x.1)]
theorem name_j0 (s : ByteArray) (x : Bool) : ∃ r, (∀ k, path_IsName.j0 (k + 1) s x = some r) ∧ (r = true → s.size ≤ 64) := by
  have hc : strings_Contains.f s (⟨#[47]⟩ : ByteArray) = some (decide (0 ≤ Lib.indexByte s.data.toList 47)) := rfl
  have hi : strings_IndexByte.f s 0 = some (Lib.indexByte s.data.toList (0 : Int).toNat.toUInt8) := rfl
  cases x with
  | true => exact ⟨false, fun k => rfl, fun h => by cases h⟩
  | false =>
    by_cases h1 : (s.size : Int) ≤ 64
    · by_cases h2 : Lib.indexByte s.data.toList (0 : Int).toNat.toUInt8 < 0
      · refine ⟨!decide (0 ≤ Lib.indexByte s.data.toList 47), fun k => ?_, fun _ => by omega⟩
        rw [path_IsName.j0, if_neg (by decide), if_pos h1, bnd hi, if_pos h2, bnd hc]
      · refine ⟨false, fun k => ?_, fun h => by cases h⟩
        rw [path_IsName.j0, if_neg (by decide), if_pos h1, bnd hi, if_neg h2]
    · refine ⟨false, fun k => ?_, fun h => by cases h⟩
      rw [path_IsName.j0, if_neg (by decide), if_neg h1]
theorem name_tot (s : ByteArray) : ∃ r, (∀ k, path_IsName.f (k + 1) s = some r) ∧ (r = true → s.size ≤ 64) := by
  by_cases h1 : s.toList = ([] : List UInt8)
  · obtain ⟨r, h, hr⟩ := name_j0 s (s.toList == ([] : List UInt8))
    exact ⟨r, fun k => by unfold path_IsName.f; rw [if_pos h1, h k], hr⟩
  · by_cases h2 : s.toList = ([46] : List UInt8)
    · obtain ⟨r, h, hr⟩ := name_j0 s (s.toList == ([46] : List UInt8))
      exact ⟨r, fun k => by unfold path_IsName.f; rw [if_neg h1, if_pos h2, h k], hr⟩
    · obtain ⟨r, h, hr⟩ := name_j0 s (s.toList == ([46, 46] : List UInt8))
      exact ⟨r, fun k => by unfold path_IsName.f; rw [if_neg h1, if_neg h2, h k], hr⟩
theorem ids_l0 (l : List ByteArray) (hl : l.length ≤ 100000) : ∀ (d i : Nat), i + d = l.length →
    ∃ b, (∀ k, d < k → node_file.l0 k l (l.length : Int) (i : Int) = some b) ∧ (b = true → ∀ (j : Nat) (x : ByteArray), i ≤ j → l[j]? = some x → x.size = 32) := by
  intro d
  induction d with
  | zero =>
    intro i hi
    refine ⟨true, fun k hk => ?_, fun _ j x hj hx => ?_⟩
    · obtain ⟨k, rfl⟩ : ∃ q, k = q + 1 := ⟨k - 1, by omega⟩
      rw [node_file.l0, if_neg (by omega)]
    · have := (List.getElem?_eq_some_iff.1 hx).1; omega
  | succ d ih =>
    intro i hi
    obtain ⟨b, hb, hb'⟩ := ih (i + 1) (by omega)
    have hlt : i < l.length := by omega
    have hw : wrap64 ((i : Int) + 1) = ((i + 1 : Nat) : Int) := by unfold wrap64; omega
    have hr : rdOf ByteArray.empty l (i : Int) = l[i] := by
      unfold rdOf
      rw [Int.toNat_natCast, List.getD_eq_getElem?_getD, List.getElem?_eq_getElem hlt]; rfl
    by_cases h32 : l[i].size = 32
    · refine ⟨b, fun k hk => ?_, fun hbt j x hj hx => ?_⟩
      · obtain ⟨k, rfl⟩ : ∃ q, k = q + 1 := ⟨k - 1, by omega⟩
        rw [node_file.l0, if_pos (by omega), if_pos (by omega), if_pos (by omega), hr, bnd (show sha_IsId.f l[i] = some true by unfold sha_IsId.f; rw [h32]; rfl), if_pos rfl, hw]
        exact hb k (by omega)
      · by_cases hij : i = j
        · subst hij
          rw [List.getElem?_eq_getElem hlt] at hx
          obtain rfl := Option.some.inj hx
          exact h32
        · exact hb' hbt j x (by omega) hx
    · refine ⟨false, fun k hk => ?_, fun h => by cases h⟩
      obtain ⟨k, rfl⟩ : ∃ q, k = q + 1 := ⟨k - 1, by omega⟩
      have hf : sha_IsId.f l[i] = some false := by unfold sha_IsId.f; congr 1; rw [beq_eq_false_iff_ne]; omega
      rw [node_file.l0, if_pos (by omega), if_pos (by omega), if_pos (by omega), hr, bnd hf, if_neg (by decide)]
theorem file_tot (x : S24) (hl : x.f6.length ≤ 100000) : ∃ b, (∀ k, x.f6.length + 2 ≤ k → node_file.f k x.f0 x.f1 x.f2 x.f3 x.f4 x.f5 x.f6 x.f7 x.f8 = some b) ∧
    (b = true → 0 ≤ x.f5 ∧ x.f5 ≤ 1073741824 ∧ x.f6.length ≤ 4096 ∧ ∀ y ∈ x.f6, y.size = 32) := by
  have jt : ∀ k, node_file.j0 (k + 1) true x.f0 x.f1 x.f2 x.f3 x.f4 x.f5 x.f6 x.f7 x.f8 = some false := fun k => by rw [node_file.j0, if_pos rfl]
  by_cases h1 : 0 ≤ x.f5 ∧ x.f5 ≤ 1073741824
  · have w1 : node_within.f x.f5 1073741824 = some true := by rw [within_told, decide_eq_true h1]
    by_cases h2 : (x.f6.length : Int) > 4096
    · refine ⟨false, fun k hk => ?_, fun h => by cases h⟩
      obtain ⟨k, rfl⟩ : ∃ q, k = q + 1 := ⟨k - 1, by omega⟩
      unfold node_file.f
      rw [bnd w1, if_pos rfl, if_pos h2, jt]
    · cases hx : ((decide (x.f5 > 0)) != (decide ((x.f6.length : Int) > 0))) with
      | true =>
        refine ⟨false, fun k hk => ?_, fun h => by cases h⟩
        obtain ⟨k, rfl⟩ : ∃ q, k = q + 1 := ⟨k - 1, by omega⟩
        unfold node_file.f
        rw [bnd w1, if_pos rfl, if_neg h2, hx, jt]
      | false =>
        obtain ⟨b, hb, hb'⟩ := ids_l0 x.f6 hl x.f6.length 0 (by omega)
        refine ⟨b, fun k hk => ?_, fun hbt => ⟨h1.1, h1.2, by omega, fun y hy => ?_⟩⟩
        · obtain ⟨k, rfl⟩ : ∃ q, k = q + 1 := ⟨k - 1, by omega⟩
          unfold node_file.f
          rw [bnd w1, if_pos rfl, if_neg h2, hx, node_file.j0, if_neg (by decide)]
          exact hb k (by omega)
        · obtain ⟨j, hj, rfl⟩ := List.getElem_of_mem hy
          exact hb' hbt j _ (Nat.zero_le _) (List.getElem?_eq_getElem hj)
  · have w1 : node_within.f x.f5 1073741824 = some false := by rw [within_told, decide_eq_false h1]
    refine ⟨false, fun k hk => ?_, fun h => by cases h⟩
    obtain ⟨k, rfl⟩ : ∃ q, k = q + 1 := ⟨k - 1, by omega⟩
    unfold node_file.f
    rw [bnd w1, if_neg (by decide), jt]

/-- What a node has that may be. -/
structure NOK (x : S24) : Prop where
  nm : (x.f0.size : Int) ≤ 64
  md : 0 ≤ x.f2 ∧ x.f2 ≤ 4095
  mt : 0 ≤ x.f3 ∧ x.f3 ≤ 1099511627776
  ct : 0 ≤ x.f4 ∧ x.f4 ≤ 1099511627776
  kd : (x.f1 = 1 ∧ x.f7 = (⟨#[]⟩ : ByteArray) ∧ x.f8 = (⟨#[]⟩ : ByteArray) ∧ 0 ≤ x.f5 ∧ x.f5 ≤ 1073741824 ∧ x.f6.length ≤ 4096 ∧ ∀ y ∈ x.f6, y.size = 32) ∨
    (x.f1 = 2 ∧ x.f5 = 0 ∧ x.f6 = [] ∧ x.f7.size = 32 ∧ x.f8 = (⟨#[]⟩ : ByteArray)) ∨
    (x.f1 = 3 ∧ x.f5 = 0 ∧ x.f6 = [] ∧ x.f7 = (⟨#[]⟩ : ByteArray) ∧ (x.f8.size : Int) ≤ 1024)
def chk (k : Nat) (x : S24) : Option Int := node_Check.f k x.f0 x.f1 x.f2 x.f3 x.f4 x.f5 x.f6 x.f7 x.f8
theorem bare_tot (x : S24) : ∃ b, node_bare.f x.f0 x.f1 x.f2 x.f3 x.f4 x.f5 x.f6 x.f7 x.f8 x.f1 = some b ∧ (b = true →
    (x.f1 = 1 ∧ x.f7.toList = [] ∧ x.f8.toList = []) ∨ (x.f1 = 2 ∧ x.f5 = 0 ∧ x.f6 = [] ∧ x.f8.toList = []) ∨ (x.f1 = 3 ∧ x.f5 = 0 ∧ x.f6 = [] ∧ x.f7.toList = []) ∨ (x.f1 ≠ 1 ∧ x.f1 ≠ 2 ∧ x.f1 ≠ 3)) := by
  have hz : (x.f6.length : Int) = 0 → x.f6 = [] := fun h => List.length_eq_zero_iff.1 (by omega)
  unfold node_bare.f
  by_cases h1 : x.f1 = 1
  · rw [if_pos h1]
    by_cases h7 : x.f7.toList = ([] : List UInt8)
    · rw [if_pos h7]
      exact ⟨_, rfl, fun h => .inl ⟨h1, h7, by simpa using h⟩⟩
    · rw [if_neg h7]
      exact ⟨_, rfl, fun h => by cases h⟩
  · rw [if_neg h1]
    by_cases h2 : x.f1 = 2
    · rw [if_pos h2]
      by_cases h5 : x.f5 = 0
      · rw [if_pos h5]
        by_cases h6 : (x.f6.length : Int) = 0
        · rw [if_pos h6]
          exact ⟨_, rfl, fun h => .inr (.inl ⟨h2, h5, hz h6, by simpa using h⟩)⟩
        · rw [if_neg h6]
          exact ⟨_, rfl, fun h => by cases h⟩
      · rw [if_neg h5]
        exact ⟨_, rfl, fun h => by cases h⟩
    · rw [if_neg h2]
      by_cases h3 : x.f1 = 3
      · rw [if_pos h3]
        by_cases h5 : x.f5 = 0
        · rw [if_pos h5]
          by_cases h6 : (x.f6.length : Int) = 0
          · rw [if_pos h6]
            by_cases h7 : x.f7.toList = ([] : List UInt8)
            · rw [if_pos h7]
              exact ⟨_, rfl, fun h => .inr (.inr (.inl ⟨h3, h5, hz h6, h7⟩))⟩
            · rw [if_neg h7]
              exact ⟨_, rfl, fun h => by cases h⟩
          · rw [if_neg h6]
            exact ⟨_, rfl, fun h => by cases h⟩
        · rw [if_neg h5]
          exact ⟨_, rfl, fun h => by cases h⟩
      · rw [if_neg h3]
        by_cases h5 : x.f5 = 0
        · rw [if_pos h5]
          by_cases h6 : (x.f6.length : Int) = 0
          · rw [if_pos h6]
            by_cases h7 : x.f7.toList = ([] : List UInt8)
            · rw [if_pos h7]
              exact ⟨_, rfl, fun _ => .inr (.inr (.inr ⟨h1, h2, h3⟩))⟩
            · rw [if_neg h7]
              exact ⟨_, rfl, fun h => by cases h⟩
          · rw [if_neg h6]
            exact ⟨_, rfl, fun h => by cases h⟩
        · rw [if_neg h5]
          exact ⟨_, rfl, fun h => by cases h⟩
theorem check_j1 (x : S24) (hl : x.f6.length ≤ 100000) (b : Bool) : ∃ c, (∀ k, x.f6.length + 4 ≤ k → node_Check.j1 k b x.f0 x.f1 x.f2 x.f3 x.f4 x.f5 x.f6 x.f7 x.f8 = some c) ∧ (c = 0 ∨ c = 180) ∧
    (c = 0 → b = false ∧ ((x.f1 = 1 ∧ x.f7 = (⟨#[]⟩ : ByteArray) ∧ x.f8 = (⟨#[]⟩ : ByteArray) ∧ 0 ≤ x.f5 ∧ x.f5 ≤ 1073741824 ∧ x.f6.length ≤ 4096 ∧ ∀ y ∈ x.f6, y.size = 32) ∨
    (x.f1 = 2 ∧ x.f5 = 0 ∧ x.f6 = [] ∧ x.f7.size = 32 ∧ x.f8 = (⟨#[]⟩ : ByteArray)) ∨
    (x.f1 = 3 ∧ x.f5 = 0 ∧ x.f6 = [] ∧ x.f7 = (⟨#[]⟩ : ByteArray) ∧ (x.f8.size : Int) ≤ 1024))) := by
  have bad : ∀ P : Prop, (∀ k, x.f6.length + 4 ≤ k → node_Check.j1 k b x.f0 x.f1 x.f2 x.f3 x.f4 x.f5 x.f6 x.f7 x.f8 = some 180) → ∃ c, (∀ k, x.f6.length + 4 ≤ k → node_Check.j1 k b x.f0 x.f1 x.f2 x.f3 x.f4 x.f5 x.f6 x.f7 x.f8 = some c) ∧ (c = 0 ∨ c = 180) ∧ (c = 0 → P) :=
    fun P h => ⟨180, h, .inr rfl, fun h => absurd h (by decide)⟩
  cases b with
  | true =>
    refine bad _ fun k hk => ?_
    obtain ⟨k, rfl⟩ : ∃ q, k = q + 1 := ⟨k - 1, by omega⟩
    rw [node_Check.j1, if_pos rfl]
  | false =>
    obtain ⟨bb, hb, hb'⟩ := bare_tot x
    cases bb with
    | false =>
      refine bad _ fun k hk => ?_
      obtain ⟨k, rfl⟩ : ∃ q, k = q + 1 := ⟨k - 1, by omega⟩
      rw [node_Check.j1, if_neg (by decide), bnd hb, if_neg (by decide)]
    | true =>
      rcases hb' rfl with ⟨h1, h7, h8⟩ | ⟨h1, h5, h6, h8⟩ | ⟨h1, h5, h6, h7⟩ | ⟨h1, h2, h3⟩
      · obtain ⟨fb, hf, hf'⟩ := file_tot x hl
        cases fb with
        | true =>
          refine ⟨0, fun k hk => ?_, .inl rfl, fun _ => ⟨rfl, .inl ⟨h1, (toList_nil _).1 h7, (toList_nil _).1 h8, hf' rfl⟩⟩⟩
          obtain ⟨k, rfl⟩ : ∃ q, k = q + 1 := ⟨k - 1, by omega⟩
          rw [node_Check.j1, if_neg (by decide), bnd hb, if_pos rfl, if_pos h1, bnd (hf k (by omega)), if_pos rfl]
        | false =>
          refine bad _ fun k hk => ?_
          obtain ⟨k, rfl⟩ : ∃ q, k = q + 1 := ⟨k - 1, by omega⟩
          rw [node_Check.j1, if_neg (by decide), bnd hb, if_pos rfl, if_pos h1, bnd (hf k (by omega)), if_neg (by decide)]
      · by_cases h32 : x.f7.size = 32
        · refine ⟨0, fun k hk => ?_, .inl rfl, fun _ => ⟨rfl, .inr (.inl ⟨h1, h5, h6, h32, (toList_nil _).1 h8⟩)⟩⟩
          obtain ⟨k, rfl⟩ : ∃ q, k = q + 1 := ⟨k - 1, by omega⟩
          rw [node_Check.j1, if_neg (by decide), bnd hb, if_pos rfl, if_neg (by omega), if_pos h1, bnd (show sha_IsId.f x.f7 = some true by unfold sha_IsId.f; rw [h32]; rfl), if_pos rfl]
        · refine bad _ fun k hk => ?_
          obtain ⟨k, rfl⟩ : ∃ q, k = q + 1 := ⟨k - 1, by omega⟩
          have hf : sha_IsId.f x.f7 = some false := by unfold sha_IsId.f; congr 1; rw [beq_eq_false_iff_ne]; omega
          rw [node_Check.j1, if_neg (by decide), bnd hb, if_pos rfl, if_neg (by omega), if_pos h1, bnd hf, if_neg (by decide)]
      · have hi : strings_IndexByte.f x.f8 0 = some (Lib.indexByte x.f8.data.toList (0 : Int).toNat.toUInt8) := rfl
        by_cases h8 : x.f8.toList = ([] : List UInt8)
        · refine bad _ fun k hk => ?_
          obtain ⟨k, rfl⟩ : ∃ q, k = q + 1 := ⟨k - 1, by omega⟩
          rw [node_Check.j1, if_neg (by decide), bnd hb, if_pos rfl, if_neg (by omega), if_neg (by omega), if_pos h1, if_pos h8]
        · by_cases h9 : (x.f8.size : Int) ≤ 1024
          · by_cases h10 : Lib.indexByte x.f8.data.toList (0 : Int).toNat.toUInt8 < 0
            · refine ⟨0, fun k hk => ?_, .inl rfl, fun _ => ⟨rfl, .inr (.inr ⟨h1, h5, h6, (toList_nil _).1 h7, h9⟩)⟩⟩
              obtain ⟨k, rfl⟩ : ∃ q, k = q + 1 := ⟨k - 1, by omega⟩
              rw [node_Check.j1, if_neg (by decide), bnd hb, if_pos rfl, if_neg (by omega), if_neg (by omega), if_pos h1, if_neg h8, if_pos h9, bnd hi, if_pos h10]
            · refine bad _ fun k hk => ?_
              obtain ⟨k, rfl⟩ : ∃ q, k = q + 1 := ⟨k - 1, by omega⟩
              rw [node_Check.j1, if_neg (by decide), bnd hb, if_pos rfl, if_neg (by omega), if_neg (by omega), if_pos h1, if_neg h8, if_pos h9, bnd hi, if_neg h10]
          · refine bad _ fun k hk => ?_
            obtain ⟨k, rfl⟩ : ∃ q, k = q + 1 := ⟨k - 1, by omega⟩
            rw [node_Check.j1, if_neg (by decide), bnd hb, if_pos rfl, if_neg (by omega), if_neg (by omega), if_pos h1, if_neg h8, if_neg h9]
      · refine bad _ fun k hk => ?_
        obtain ⟨k, rfl⟩ : ∃ q, k = q + 1 := ⟨k - 1, by omega⟩
        rw [node_Check.j1, if_neg (by decide), bnd hb, if_pos rfl, if_neg h1, if_neg h2, if_neg h3]
theorem check_tot (x : S24) (hl : x.f6.length ≤ 100000) : ∃ c, (∀ k, x.f6.length + 6 ≤ k → chk k x = some c) ∧ (c = 0 ∨ c = 180) ∧ (c = 0 → NOK x) := by
  have bad : ∀ P : Prop, (∀ k, x.f6.length + 6 ≤ k → chk k x = some 180) → ∃ c, (∀ k, x.f6.length + 6 ≤ k → chk k x = some c) ∧ (c = 0 ∨ c = 180) ∧ (c = 0 → P) :=
    fun P h => ⟨180, h, .inr rfl, fun h => absurd h (by decide)⟩
  obtain ⟨nb, hn, hn'⟩ := name_tot x.f0
  have jt : ∀ k, node_Check.j0 (k + 1) true x.f0 x.f1 x.f2 x.f3 x.f4 x.f5 x.f6 x.f7 x.f8 = some 180 := fun k => by rw [node_Check.j0, if_pos rfl]
  cases nb with
  | false =>
    refine bad _ fun k hk => ?_
    obtain ⟨k, rfl⟩ : ∃ q, k = q + 1 := ⟨k - 1, by omega⟩
    unfold chk node_Check.f
    rw [bnd (hn k), if_neg (by decide), jt]
  | true =>
    by_cases h2 : 0 ≤ x.f2 ∧ x.f2 ≤ 4095
    · have w2 : node_within.f x.f2 4095 = some true := by rw [within_told, decide_eq_true h2]
      by_cases h3 : 0 ≤ x.f3 ∧ x.f3 ≤ 1099511627776
      · have w3 : node_within.f x.f3 1099511627776 = some true := by rw [within_told, decide_eq_true h3]
        have w4 : node_within.f x.f4 1099511627776 = some (decide (0 ≤ x.f4 ∧ x.f4 ≤ 1099511627776)) := within_told _ _
        obtain ⟨c, hc, hc', hc''⟩ := check_j1 x hl (!decide (0 ≤ x.f4 ∧ x.f4 ≤ 1099511627776))
        refine ⟨c, fun k hk => ?_, hc', fun h0 => ?_⟩
        · obtain ⟨k, rfl⟩ : ∃ q, k = q + 1 := ⟨k - 1, by omega⟩
          unfold chk node_Check.f
          rw [bnd (hn k), if_pos rfl, bnd w2, node_Check.j0, if_neg (by decide), bnd w3, if_pos rfl, bnd w4]
          exact hc k (by omega)
        · obtain ⟨h4, hk⟩ := hc'' h0
          have h4 : 0 ≤ x.f4 ∧ x.f4 ≤ 1099511627776 := by simpa using h4
          exact ⟨by have := hn' rfl; omega, h2, h3, h4, hk⟩
      · have w3 : node_within.f x.f3 1099511627776 = some false := by rw [within_told, decide_eq_false h3]
        refine bad _ fun k hk => ?_
        obtain ⟨k, rfl⟩ : ∃ q, k = q + 2 := ⟨k - 2, by omega⟩
        unfold chk node_Check.f
        rw [bnd (hn (k + 1)), if_pos rfl, bnd w2, node_Check.j0, if_neg (by decide), bnd w3, if_neg (by decide), node_Check.j1, if_pos rfl]
    · have w2 : node_within.f x.f2 4095 = some false := by rw [within_told, decide_eq_false h2]
      refine bad _ fun k hk => ?_
      obtain ⟨k, rfl⟩ : ∃ q, k = q + 1 := ⟨k - 1, by omega⟩
      unfold chk node_Check.f
      rw [bnd (hn k), if_pos rfl, bnd w2]
      exact jt k
/-- May it be? -/
def Good (x : S24) : Prop := NOK x ∧ ∀ k, x.f6.length + 6 ≤ k → chk k x = some 0
theorem good_or (x : S24) (hl : x.f6.length ≤ 100000) : Good x ∨ ∀ k, x.f6.length + 6 ≤ k → chk k x = some 180 := by
  obtain ⟨c, hc, h, h'⟩ := check_tot x hl
  rcases h with rfl | rfl
  · exact .inl ⟨h' rfl, hc⟩
  · exact .inr hc
theorem Good.ids {x : S24} (h : Good x) : x.f6.length ≤ 4096 := by
  rcases h.1.kd with h | h | h
  · exact h.2.2.2.2.2.1
  · rw [h.2.2.1]; simp
  · rw [h.2.2.1]; simp

/-! ### the bytes -/
def nTail (x : S24) : List Int := if x.f1 = 1 then encS x.f5.toNat ++ (encS x.f6.length ++ x.f6.flatMap bytesOf) else if x.f1 = 2 then bytesOf x.f7 else encS x.f8.size ++ bytesOf x.f8
def nEnc (x : S24) : List Int := (encS x.f0.size ++ bytesOf x.f0) ++ ([x.f1] ++ (encS x.f2.toNat ++ (encS x.f3.toNat ++ (encS x.f4.toNat ++ nTail x))))
theorem sz (a : ByteArray) (l : List Int) (h : bytesOf a = l) : a.size = l.length := by rw [← h, bytesOf_size]
theorem text_bytes {k : Nat} (hk : 9 ≤ k) (s : ByteArray) (h1 : s.size < 9223372036854775000) : ∃ r, num_Text.f k s = some r ∧ bytesOf r = encS s.size ++ bytesOf s :=
  ⟨_, text_told hk s h1, by rw [bytesOf_append, bytesOf_strOfNums (encS_bytes _)]⟩
theorem nshort_l0 (l : List Int) (hl : l.length ≤ 10) (hr : ∀ a ∈ l, 0 ≤ a ∧ a < 9223372036854775808) : ∀ (d i : Nat) (s : ByteArray), i + d = l.length → s.size ≤ 9 * i → ∀ k, d + 9 < k →
    ∃ r, node_short.l0 k s l (l.length : Int) (i : Int) = some r ∧ bytesOf r = bytesOf s ++ (l.drop i).flatMap (fun a => encS a.toNat) := by
  intro d
  induction d with
  | zero =>
    intro i s hi hs k hk
    obtain ⟨k, rfl⟩ : ∃ q, k = q + 1 := ⟨k - 1, by omega⟩
    refine ⟨s, by rw [node_short.l0, if_neg (by omega)], ?_⟩
    rw [List.drop_of_length_le (by omega)]
    simp
  | succ d ih =>
    intro i s hi hs k hk
    obtain ⟨k, rfl⟩ : ∃ q, k = q + 1 := ⟨k - 1, by omega⟩
    have hlt : i < l.length := by omega
    have hw : wrap64 ((i : Int) + 1) = ((i + 1 : Nat) : Int) := by unfold wrap64; omega
    have hrd : rd l (i : Int) = l[i] := by
      unfold rd
      rw [Int.toNat_natCast, List.getD_eq_getElem?_getD, List.getElem?_eq_getElem hlt]; rfl
    obtain ⟨a0, a1⟩ := hr l[i] (List.getElem_mem hlt)
    have he := encS_len9 (x := (l[i]).toNat) (by omega)
    have hb : bytesOf (strOfNums (encS (l[i]).toNat)) = encS (l[i]).toNat := bytesOf_strOfNums (encS_bytes _)
    have hz := sz _ _ hb
    obtain ⟨r, h1, h2⟩ := ih (i + 1) (s ++ strOfNums (encS (l[i]).toNat)) (by omega) (by rw [ByteArray.size_append]; omega) k (by omega)
    refine ⟨r, ?_, ?_⟩
    · rw [node_short.l0, if_pos (by omega), if_pos (by omega), if_pos (by omega), hrd, bnd (short_told (by omega) _ a0 a1)]
      dsimp only
      rw [if_pos (by omega), hw]
      exact h1
    · rw [h2, bytesOf_append, hb, List.append_assoc, List.drop_eq_getElem_cons hlt, List.flatMap_cons]
theorem nshort_told (l : List Int) (hl : l.length ≤ 10) (hr : ∀ a ∈ l, 0 ≤ a ∧ a < 9223372036854775808) {k : Nat} (hk : 30 ≤ k) : ∃ r, node_short.f k l = some r ∧ bytesOf r = l.flatMap (fun a => encS a.toNat) := by
  obtain ⟨r, h1, h2⟩ := nshort_l0 l hl hr l.length 0 (⟨#[]⟩ : ByteArray) (by omega) (by show 0 ≤ _; omega) k (by omega)
  exact ⟨r, by unfold node_short.f; exact h1, by rw [h2]; rfl⟩
theorem join_told (l : List ByteArray) (hl : l.length ≤ 4096) (h : ∀ y ∈ l, y.size = 32) : ∃ r, strings_Join.f l (⟨#[]⟩ : ByteArray) = some r ∧ bytesOf r = l.flatMap bytesOf ∧ r.size ≤ 131072 := by
  have e : Lib.join (l.map (·.data.toList)) [] = (l.map (·.data.toList)).flatten := by
    generalize l.map (·.data.toList) = l
    cases l with
    | nil => rfl
    | cons x r =>
      rw [Lib.join_cons, List.flatten_cons]
      unfold Lib.joinTail
      simp
  have hlen : (l.map (·.data.toList)).flatten.length ≤ 131072 := by
    have : ∀ q : List ByteArray, (∀ y ∈ q, y.size = 32) → (q.map (·.data.toList)).flatten.length = q.length * 32 := by
      intro q
      induction q with
      | nil => intro _; rfl
      | cons a q ih =>
        intro hq
        have ha := hq a (List.mem_cons_self ..)
        have hda : a.data.toList.length = 32 := ha
        rw [List.map_cons, List.flatten_cons, List.length_append, ih (fun y hy => hq y (List.mem_cons_of_mem _ hy)), List.length_cons, hda]
        omega
    rw [this l h]; omega
  refine ⟨⟨(l.map (·.data.toList)).flatten.toArray⟩, ?_, ?_, by show (l.map (·.data.toList)).flatten.length ≤ _; exact hlen⟩
  · unfold strings_Join.f
    rw [show (⟨#[]⟩ : ByteArray).data.toList = [] from rfl, e, if_pos ⟨by omega, by omega⟩]
  · have hbo : ∀ q : List UInt8, bytesOf ⟨q.toArray⟩ = q.map (fun c => (c.toNat : Int)) := by
      intro q
      rfl
    rw [hbo]
    clear e hlen h hl
    induction l with
    | nil => rfl
    | cons a l ih =>
      rw [List.map_cons, List.flatten_cons, List.map_append, ih, List.flatMap_cons]
      congr 1
theorem flat3 (a b c : Int) : ([a, b, c] : List Int).flatMap (fun x => encS x.toNat) = encS a.toNat ++ (encS b.toNat ++ encS c.toNat) := by simp
theorem flat2 (a b : Int) : ([a, b] : List Int).flatMap (fun x => encS x.toNat) = encS a.toNat ++ encS b.toNat := by simp
/-- A node that may be is told by just those bytes. -/
theorem encode_told {x : S24} (hg : Good x) {k : Nat} (hk : 5000 ≤ k) : ∃ b, node_Encode.f k x.f0 x.f1 x.f2 x.f3 x.f4 x.f5 x.f6 x.f7 x.f8 = some (b, 0) ∧ bytesOf b = nEnc x := by
  have hids := hg.ids
  obtain ⟨hn, hc⟩ := hg
  have hck : node_Check.f k x.f0 x.f1 x.f2 x.f3 x.f4 x.f5 x.f6 x.f7 x.f8 = some 0 := hc k (by omega)
  have hnm := hn.nm; have hmd := hn.md; have hmt := hn.mt; have hct := hn.ct
  obtain ⟨t, ht, hbt⟩ := text_bytes (k := k) (by omega) x.f0 (by omega)
  obtain ⟨m, hm, hbm⟩ := nshort_told [x.f2, x.f3, x.f4] (by simp) (by intro a ha; simp only [List.mem_cons, List.not_mem_nil, or_false] at ha; omega) (k := k) (by omega)
  rw [flat3] at hbm
  have hf1 : 1 ≤ x.f1 ∧ x.f1 ≤ 3 := by rcases hn.kd with h | h | h <;> omega
  have hby : bytesOf (strOfNums [x.f1 % 256]) = [x.f1] := by
    rw [bytesOf_strOfNums (by intro c hc; simp only [List.mem_singleton] at hc; omega)]
    congr 1; omega
  have l0 := encS_len9 (x := x.f0.size) (by omega)
  have l2 := encS_len9 (x := x.f2.toNat) (by omega)
  have l3 := encS_len9 (x := x.f3.toNat) (by omega)
  have l4 := encS_len9 (x := x.f4.toNat) (by omega)
  have z0 := sz _ _ hbt
  rw [List.length_append, bytesOf_size] at z0
  have z1 := sz _ _ hby
  rw [List.length_singleton] at z1
  have z2 := sz _ _ hbm
  rw [List.length_append, List.length_append] at z2
  have e1 : (t ++ strOfNums [x.f1 % 256]).size = t.size + 1 := by rw [ByteArray.size_append, z1]
  have e2 : ((t ++ strOfNums [x.f1 % 256]) ++ m).size = t.size + 1 + m.size := by rw [ByteArray.size_append, e1]
  have hpre : bytesOf ((t ++ strOfNums [x.f1 % 256]) ++ m) = (encS x.f0.size ++ bytesOf x.f0) ++ ([x.f1] ++ (encS x.f2.toNat ++ (encS x.f3.toNat ++ encS x.f4.toNat))) := by
    rw [bytesOf_append, bytesOf_append, hbt, hby, hbm, List.append_assoc]
  have fin : ∀ (b : ByteArray) (q : List Int), bytesOf b = q → nTail x = q → bytesOf (((t ++ strOfNums [x.f1 % 256]) ++ m) ++ b) = nEnc x := by
    intro b q hb hq
    rw [bytesOf_append, hpre, hb]
    unfold nEnc
    rw [hq]
    simp only [List.append_assoc]
  have hstart : ∀ (r : Option (ByteArray × Int)), (if x.f1 = 1 then ((node_short.f k (([x.f5, (x.f6.length : Int)] : List Int))).bind fun t141 => (if ((t ++ (strOfNums [x.f1 % 256])) ++ m).size + t141.size ≤ 9223372036854775807 then ((strings_Join.f x.f6 (⟨#[]⟩ : ByteArray)).bind fun t142 => (if (((t ++ (strOfNums [x.f1 % 256])) ++ m) ++ t141).size + t142.size ≤ 9223372036854775807 then (some ((((t ++ (strOfNums [x.f1 % 256])) ++ m) ++ t141) ++ t142, 0)) else (none))) else (none))) else (if x.f1 = 2 then (if ((t ++ (strOfNums [x.f1 % 256])) ++ m).size + x.f7.size ≤ 9223372036854775807 then (some (((t ++ (strOfNums [x.f1 % 256])) ++ m) ++ x.f7, 0)) else (none)) else ((num_Text.f k x.f8).bind fun t143 => (if ((t ++ (strOfNums [x.f1 % 256])) ++ m).size + t143.size ≤ 9223372036854775807 then (some (((t ++ (strOfNums [x.f1 % 256])) ++ m) ++ t143, 0)) else (none))))) = r →
      node_Encode.f k x.f0 x.f1 x.f2 x.f3 x.f4 x.f5 x.f6 x.f7 x.f8 = r := by
    intro r hr
    unfold node_Encode.f
    rw [bnd hck, if_pos rfl, bnd ht]
    show (if t.size + (strOfNums [x.f1 % 256]).size ≤ 9223372036854775807 then _ else none) = r
    rw [if_pos (by omega), bnd hm, if_pos (by omega)]
    exact hr
  rcases hn.kd with ⟨h1, h7, h8, h5, h5', h6, h32⟩ | ⟨h1, h5, h6, h7, h8⟩ | ⟨h1, h5, h6, h7, h8⟩
  · obtain ⟨q, hq, hbq⟩ := nshort_told [x.f5, (x.f6.length : Int)] (by simp) (by intro a ha; simp only [List.mem_cons, List.not_mem_nil, or_false] at ha; omega) (k := k) (by omega)
    rw [flat2, Int.toNat_natCast] at hbq
    obtain ⟨j, hj, hbj, hjs⟩ := join_told x.f6 h6 h32
    have l5 := encS_len9 (x := x.f5.toNat) (by omega)
    have l6 := encS_len9 (x := x.f6.length) (by omega)
    have z3 := sz _ _ hbq
    rw [List.length_append] at z3
    have e3 : (((t ++ strOfNums [x.f1 % 256]) ++ m) ++ q).size = t.size + 1 + m.size + q.size := by rw [ByteArray.size_append, e2]
    refine ⟨(((t ++ strOfNums [x.f1 % 256]) ++ m) ++ q) ++ j, hstart _ ?_, ?_⟩
    · rw [if_pos h1, bnd hq, if_pos (by omega), bnd hj, if_pos (by omega)]
    · have := fin (q ++ j) (encS x.f5.toNat ++ (encS x.f6.length ++ x.f6.flatMap bytesOf)) (by rw [bytesOf_append, hbq, hbj, List.append_assoc]) (by unfold nTail; rw [if_pos h1])
      rw [← this, bytesOf_append, bytesOf_append _ q, bytesOf_append _ (q ++ j), bytesOf_append q j, List.append_assoc]
  · refine ⟨_, hstart _ ?_, fin x.f7 (bytesOf x.f7) rfl (by unfold nTail; rw [if_neg (by omega), if_pos h1])⟩
    rw [if_neg (by omega), if_pos h1, if_pos (by omega)]
  · obtain ⟨u, hu, hbu⟩ := text_bytes (k := k) (by omega) x.f8 (by omega)
    have l8 := encS_len9 (x := x.f8.size) (by omega)
    have z8 := sz _ _ hbu
    rw [List.length_append, bytesOf_size] at z8
    refine ⟨_, hstart _ ?_, fin u _ hbu (by unfold nTail; rw [if_neg (by omega), if_neg (by omega)])⟩
    rw [if_neg (by omega), if_neg (by omega), bnd hu, if_pos (by omega)]
theorem encode_bad {x : S24} (hc : ∀ k, x.f6.length + 6 ≤ k → chk k x = some 180) {k : Nat} (hk : x.f6.length + 6 ≤ k) : node_Encode.f k x.f0 x.f1 x.f2 x.f3 x.f4 x.f5 x.f6 x.f7 x.f8 = some ((⟨#[]⟩ : ByteArray), 180) := by
  have hck : node_Check.f k x.f0 x.f1 x.f2 x.f3 x.f4 x.f5 x.f6 x.f7 x.f8 = some 180 := hc k hk
  unfold node_Encode.f
  rw [bnd hck, if_neg (by decide)]
end Go.Proofs.Ytnlphphaajkjpaa.QTreB
