import Derived.Laws.Strings
import Derived.Laws.Entries
import Derived.Lib.SplitLaws
import Derived.Lib.IndexBytes
import Derived.Lib.Join
import Derived.Lib.IndexLaws
section
/- Texts and lists of texts in order: plain. -/
namespace Go.Proofs.YtfihbohdhcidbaaDoor.PathOrd
open Go
theorem bl_irrefl : ∀ l : List UInt8, Op.bytesLess l l = false
  | [] => rfl
  | a :: x => by simp [Op.bytesLess, bl_irrefl x]
theorem bl_tri : ∀ x y : List UInt8, Op.bytesLess x y = false → Op.bytesLess y x = false → x = y
  | [], [], _, _ => rfl
  | [], b :: y, h, _ => by simp [Op.bytesLess] at h
  | a :: x, [], _, h => by simp [Op.bytesLess] at h
  | a :: x, b :: y, h1, h2 => by
    simp only [Op.bytesLess, Bool.or_eq_false_iff, decide_eq_false_iff_not] at h1 h2
    have e : a = b := by
      apply UInt8.toNat_inj.1
      have n1 := h1.1
      have n2 := h2.1
      simp only [UInt8.lt_iff_toNat_lt] at n1 n2
      omega
    subst e
    have h3 := h1.2
    have h4 := h2.2
    simp at h3 h4
    rw [bl_tri x y h3 h4]
theorem bl_asymm : ∀ x y : List UInt8, Op.bytesLess x y = true → Op.bytesLess y x = false
  | _, [], h => by cases ‹List UInt8› <;> simp [Op.bytesLess] at h
  | [], b :: y, _ => by simp [Op.bytesLess]
  | a :: x, b :: y, h => by
    simp only [Op.bytesLess, Bool.or_eq_true, Bool.and_eq_true, decide_eq_true_eq, beq_iff_eq] at h
    simp only [Op.bytesLess, Bool.or_eq_false_iff, Bool.and_eq_false_iff, decide_eq_false_iff_not, beq_eq_false_iff_ne]
    rcases h with h | ⟨rfl, h⟩
    · rw [UInt8.lt_iff_toNat_lt] at h
      refine ⟨by rw [UInt8.lt_iff_toNat_lt]; omega, .inl (fun e => by rw [e] at h; omega)⟩
    · exact ⟨by rw [UInt8.lt_iff_toNat_lt]; omega, .inr (bl_asymm x y h)⟩
theorem bl_trans : ∀ x y z : List UInt8, Op.bytesLess x y = true → Op.bytesLess y z = true → Op.bytesLess x z = true
  | _, [], _, h, _ => by cases ‹List UInt8› <;> simp [Op.bytesLess] at h
  | _, _ :: _, [], _, h => by simp [Op.bytesLess] at h
  | [], _ :: _, _ :: _, _, _ => by simp [Op.bytesLess]
  | a :: x, b :: y, c :: z, h1, h2 => by
    simp only [Op.bytesLess, Bool.or_eq_true, Bool.and_eq_true, decide_eq_true_eq, beq_iff_eq] at h1 h2 ⊢
    rcases h1 with h1 | ⟨rfl, h1⟩
    · rcases h2 with h2 | ⟨rfl, _⟩
      · rw [UInt8.lt_iff_toNat_lt] at h1 h2 ⊢
        exact .inl (by omega)
      · exact .inl h1
    · rcases h2 with h2 | ⟨rfl, h2⟩
      · exact .inl h2
      · exact .inr ⟨rfl, bl_trans x y z h1 h2⟩
/-- How two texts stand. -/
def cmpT (x y : ByteArray) : Int := if Op.bytesLess x.data.toList y.data.toList = true then -1 else if Op.bytesLess y.data.toList x.data.toList = true then 1 else 0
theorem eq_of_list {x y : ByteArray} (h : x.data.toList = y.data.toList) : x = y := by
  obtain ⟨⟨l⟩⟩ := x
  obtain ⟨⟨m⟩⟩ := y
  exact congrArg (fun l => (⟨⟨l⟩⟩ : ByteArray)) h
theorem cmpT_zero {x y : ByteArray} (h : cmpT x y = 0) : x = y := by
  unfold cmpT at h
  cases h1 : Op.bytesLess x.data.toList y.data.toList with
  | true => rw [h1] at h; simp at h
  | false =>
    cases h2 : Op.bytesLess y.data.toList x.data.toList with
    | true => rw [h1, h2] at h; simp at h
    | false => exact eq_of_list (bl_tri _ _ h1 h2)
theorem cmpT_neg {x y : ByteArray} : cmpT x y < 0 ↔ Op.bytesLess x.data.toList y.data.toList = true := by
  unfold cmpT
  cases h1 : Op.bytesLess x.data.toList y.data.toList with
  | true => simp
  | false => cases h2 : Op.bytesLess y.data.toList x.data.toList <;> simp
theorem cmpT_swap (x y : ByteArray) : cmpT y x = - cmpT x y := by
  unfold cmpT
  cases h1 : Op.bytesLess x.data.toList y.data.toList with
  | true => rw [bl_asymm _ _ h1]; simp
  | false => cases h2 : Op.bytesLess y.data.toList x.data.toList <;> simp
/-- How two lists stand. -/
def cmpL : List ByteArray → List ByteArray → Int
  | [], [] => 0
  | [], _ :: _ => -1
  | _ :: _, [] => 1
  | a :: x, b :: y => if cmpT a b = 0 then cmpL x y else cmpT a b
theorem cmpL_zero : ∀ {x y}, cmpL x y = 0 → x = y
  | [], [], _ => rfl
  | [], _ :: _, h => by simp [cmpL] at h
  | _ :: _, [], h => by simp [cmpL] at h
  | a :: x, b :: y, h => by
    simp only [cmpL] at h
    by_cases e : cmpT a b = 0
    · rw [if_pos e] at h
      rw [cmpT_zero e, cmpL_zero h]
    · rw [if_neg e] at h
      exact absurd h e
theorem cmpL_swap : ∀ x y, cmpL y x = - cmpL x y
  | [], [] => rfl
  | [], _ :: _ => rfl
  | _ :: _, [] => rfl
  | a :: x, b :: y => by
    simp only [cmpL]
    rw [cmpT_swap a b]
    by_cases e : cmpT a b = 0
    · rw [if_pos e, if_pos (by omega), cmpL_swap x y]
    · rw [if_neg e, if_neg (by omega)]
theorem cmpL_trans : ∀ x y z, cmpL x y < 0 → cmpL y z < 0 → cmpL x z < 0
  | [], [], _, h, _ => by simp [cmpL] at h
  | [], _ :: _, [], _, h => by simp [cmpL] at h
  | [], _ :: _, _ :: _, _, _ => by simp [cmpL]
  | _ :: _, [], _, h, _ => by simp [cmpL] at h
  | _ :: _, _ :: _, [], _, h => by simp [cmpL] at h
  | a :: x, b :: y, c :: z, h1, h2 => by
    simp only [cmpL] at h1 h2 ⊢
    by_cases e1 : cmpT a b = 0
    · rw [if_pos e1] at h1
      have := cmpT_zero e1
      subst this
      by_cases e2 : cmpT a c = 0
      · rw [if_pos e2] at h2 ⊢
        exact cmpL_trans x y z h1 h2
      · rw [if_neg e2] at h2 ⊢
        exact h2
    · rw [if_neg e1] at h1
      by_cases e2 : cmpT b c = 0
      · have := cmpT_zero e2
        subst this
        rw [if_neg e1]
        exact h1
      · rw [if_neg e2] at h2
        have h3 : cmpT a c < 0 := cmpT_neg.2 (bl_trans _ _ _ (cmpT_neg.1 h1) (cmpT_neg.1 h2))
        rw [if_neg (by omega)]
        exact h3
end Go.Proofs.YtfihbohdhcidbaaDoor.PathOrd
end

section
/- A text cut at its slashes, and put together: plain. -/
namespace Go.Proofs.YtfihbohdhcidbaaDoor.PathOrd
open Go
/-- What stands between slashes. -/
def spl : List UInt8 → List (List UInt8)
  | [] => [[]]
  | c :: l => if c = 47 then [] :: spl l else match spl l with
    | [] => [[c]]
    | h :: t => (c :: h) :: t
theorem spl_ne : ∀ l, spl l ≠ []
  | [] => by simp [spl]
  | c :: l => by
    simp only [spl]
    split
    · simp
    · split <;> simp
theorem spl_free : ∀ (A : List UInt8), (∀ x ∈ A, x ≠ 47) → spl A = [A]
  | [], _ => rfl
  | c :: A, h => by
    have hc : c ≠ 47 := h c (by simp)
    simp only [spl]
    rw [if_neg hc, spl_free A (fun x hx => h x (by simp [hx]))]
theorem spl_at : ∀ (A R : List UInt8), (∀ x ∈ A, x ≠ 47) → spl (A ++ 47 :: R) = A :: spl R
  | [], R, _ => by simp [spl]
  | c :: A, R, h => by
    have hc : c ≠ 47 := h c (by simp)
    rw [List.cons_append]
    simp only [spl]
    rw [if_neg hc, spl_at A R (fun x hx => h x (by simp [hx]))]
theorem spl_parts : ∀ (l : List UInt8), (∀ x ∈ l, x ≠ 47) ∨ ∃ A R, l = A ++ 47 :: R ∧ ∀ x ∈ A, x ≠ 47
  | [] => .inl (by simp)
  | c :: l => by
    by_cases hc : c = 47
    · subst hc
      exact .inr ⟨[], l, rfl, by simp⟩
    · rcases spl_parts l with h | ⟨A, R, rfl, h⟩
      · refine .inl (fun x hx => ?_)
        rcases List.mem_cons.1 hx with rfl | hx
        · exact hc
        · exact h x hx
      · refine .inr ⟨c :: A, R, rfl, fun x hx => ?_⟩
        rcases List.mem_cons.1 hx with rfl | hx
        · exact hc
        · exact h x hx
theorem idx_at (c : UInt8) : ∀ (A R : List UInt8), (∀ x ∈ A, x ≠ c) → Lib.index (A ++ c :: R) [c] = A.length := by
  intro A
  induction A with
  | nil => intro R _; simp [Lib.index, List.isPrefixOf]
  | cons b A ih =>
    intro R h
    have hb : b ≠ c := h b (by simp)
    have hi := ih R (fun x hx => h x (by simp [hx]))
    have h0 : [c].isPrefixOf (b :: (A ++ c :: R)) = false := by simp [List.isPrefixOf]; exact fun e => hb e.symm
    rw [List.cons_append, Lib.index, h0, hi]
    have : ((A.length : Int) == -1) = false := by rw [beq_eq_false_iff_ne]; omega
    rw [this]; simp
theorem idx_none (c : UInt8) : ∀ (A : List UInt8), (∀ x ∈ A, x ≠ c) → Lib.index A [c] = -1 := by
  intro A
  induction A with
  | nil => intro _; rfl
  | cons b A ih =>
    intro h
    have hb : b ≠ c := h b (by simp)
    have hi := ih (fun x hx => h x (by simp [hx]))
    have h0 : [c].isPrefixOf (b :: A) = false := by simp [List.isPrefixOf]; exact fun e => hb e.symm
    rw [Lib.index, h0, hi]; rfl
theorem split_spl : ∀ (n : Nat) (l : List UInt8), l.length ≤ n → Lib.splitK [47] 0 (Lib.count l [47]) l = spl l := by
  intro n
  induction n with
  | zero =>
    intro l h
    obtain rfl := List.eq_nil_of_length_eq_zero (Nat.le_zero.1 h)
    rw [Lib.count_miss (idx_none 47 [] (by simp))]
    rfl
  | succ n ih =>
    intro l h
    rcases spl_parts l with hf | ⟨A, R, rfl, hA⟩
    · rw [Lib.count_miss (idx_none 47 l hf), spl_free l hf]
      rfl
    · have hc : Lib.count (A ++ 47 :: R) [47] = 1 + Lib.count R [47] := by
        rw [Lib.count_hit (by simp) (idx_at 47 A R hA)]
        simp
      have hn : ((A.length : Int) == -1) = false := by rw [beq_eq_false_iff_ne]; omega
      rw [hc, Nat.add_comm, Lib.splitK, idx_at 47 A R hA, hn]
      simp only [Bool.false_eq_true, if_false, Int.toNat_natCast, Nat.add_zero, List.length_singleton]
      rw [List.take_left, show A ++ 47 :: R = (A ++ [47]) ++ R by simp, List.drop_left' (by simp), ih R (by simp at h; omega)]
      rw [show (A ++ [47]) ++ R = A ++ 47 :: R by simp, spl_at A R hA]
/-- With slashes between. -/
def jn : List (List UInt8) → List UInt8
  | [] => []
  | [x] => x
  | x :: y :: r => x ++ 47 :: jn (y :: r)
theorem jn_cons (x : List UInt8) (L : List (List UInt8)) (h : L ≠ []) : jn (x :: L) = x ++ 47 :: jn L := by
  cases L with
  | nil => exact absurd rfl h
  | cons y r => rfl
theorem jn_spl : ∀ l, jn (spl l) = l
  | [] => rfl
  | c :: l => by
    have ih := jn_spl l
    have hn := spl_ne l
    simp only [spl]
    by_cases hc : c = 47
    · rw [if_pos hc, jn_cons _ _ hn, ih, hc]
      rfl
    · rw [if_neg hc]
      cases hs : spl l with
      | nil => exact absurd hs hn
      | cons h t =>
        rw [hs] at ih
        simp only
        cases t with
        | nil => simp only [jn] at ih ⊢; rw [ih]
        | cons y r => simp only [jn] at ih ⊢; rw [← ih]; rfl
/-- A path's parts: none of the empty text. -/
def parts (p : ByteArray) : List ByteArray := if p.data.toList = [] then [] else (spl p.data.toList).map fun l => ⟨l.toArray⟩
theorem parts_list (p : ByteArray) (h : p.data.toList ≠ []) : (parts p).map (·.data.toList) = spl p.data.toList := by
  unfold parts
  rw [if_neg h, List.map_map]
  exact List.map_id'' (fun _ => rfl) _
/-- What the shelf's cutting tells. -/
theorem splitB_parts (p : ByteArray) (h : p.data.toList ≠ []) : Lib.splitB ⟨#[47]⟩ 0 (Lib.countB p ⟨#[47]⟩) p = parts p := by
  have hd := Lib.splitB_data ⟨#[47]⟩ 0 (Lib.countB p ⟨#[47]⟩) p
  replace hd : (Lib.splitB ⟨#[47]⟩ 0 (Lib.countB p ⟨#[47]⟩) p).map (·.data.toList) = spl p.data.toList := hd.trans (split_spl _ _ (Nat.le_refl _))
  rw [← parts_list p h] at hd
  generalize Lib.splitB ⟨#[47]⟩ 0 (Lib.countB p ⟨#[47]⟩) p = L at hd ⊢
  have e : ∀ M : List ByteArray, M = (M.map (·.data.toList)).map (fun l => (⟨l.toArray⟩ : ByteArray)) := fun M => by rw [List.map_map]; exact (List.map_id'' (fun _ => rfl) M).symm
  rw [e L, hd, ← e (parts p)]
end Go.Proofs.YtfihbohdhcidbaaDoor.PathOrd
end

section
/- Names, and lists of them that are a path's: plain. -/
namespace Go.Proofs.YtfihbohdhcidbaaDoor.PathOrd
open Go
/-- Is a text a name? -/
def nameB (a : ByteArray) : Bool := decide (a.data.toList ≠ [] ∧ a.data.toList ≠ [46] ∧ a.data.toList ≠ [46, 46] ∧ a.size ≤ 64 ∧ Lib.indexByte a.data.toList 0 < 0 ∧ Lib.indexByte a.data.toList 47 < 0)
theorem nameB_size {a : ByteArray} (h : nameB a = true) : a.size ≤ 64 := (of_decide_eq_true h).2.2.2.1
/-- The lengths of names with a slash behind each. -/
def total : List ByteArray → Nat
  | [] => 0
  | a :: L => a.size + 1 + total L
theorem jn_total : ∀ L : List ByteArray, L ≠ [] → (jn (L.map (·.data.toList))).length + 1 = total L
  | [], h => absurd rfl h
  | [a], _ => by simp [jn, total]
  | a :: b :: L, _ => by
    have ih := jn_total (b :: L) (by simp)
    simp only [List.map_cons] at ih ⊢
    rw [jn_cons _ _ (by simp)]
    rw [total, ← ih]
    simp
    omega
theorem jn_parts (p : ByteArray) : jn ((parts p).map (·.data.toList)) = p.data.toList := by
  by_cases h : p.data.toList = []
  · unfold parts
    rw [if_pos h, h]
    rfl
  · rw [parts_list p h, jn_spl]
/-- Are names a path's? -/
def isB (L : List ByteArray) : Bool := L.all nameB && decide (0 < L.length ∧ L.length ≤ 4096 ∧ (total L : Int) - 1 ≤ 65536)
theorem isB_ne {L : List ByteArray} (h : isB L = true) : 0 < L.length := by
  simp only [isB, Bool.and_eq_true, decide_eq_true_eq] at h
  exact h.2.1
/-- The text of names with slashes between. -/
def jnT (L : List ByteArray) : ByteArray := ⟨(jn (L.map (·.data.toList))).toArray⟩
end Go.Proofs.YtfihbohdhcidbaaDoor.PathOrd
end

