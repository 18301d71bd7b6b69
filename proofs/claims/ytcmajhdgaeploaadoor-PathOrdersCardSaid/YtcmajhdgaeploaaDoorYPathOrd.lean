/- Texts and lists of texts in order: plain. -/
import Derived.Laws.Strings
import Derived.Laws.Entries
namespace Go.Proofs.YtcmajhdgaeploaaDoor.PathOrd
open Go
theorem bl_irrefl : ∀ l : List UInt8, Op.bytesLess l l = false
  | [] => rfl
  | a :: x => by simp [Op.bytesLess, bl_irrefl x]
theorem bl_tri : ∀ x y : List UInt8, Op.bytesLess x y = false → Op.bytesLess y x = false → x = y
  | [], [], _, _ => rfl
  | [], b :: y, h, _ => by simp [Op.bytesLess] at h
  | a :: x, [], _, h => by simp [Op.bytesLess] at h
  | a :: x, b :: y, h1, h2 => by
    simp only [Op.bytesLess, Bool.or_eq_false_iff, decide_eq_false_iff_not] at h1 h2
    have e : a = b := by
      apply UInt8.toNat_inj.1
      have n1 := h1.1
      have n2 := h2.1
      simp only [UInt8.lt_iff_toNat_lt] at n1 n2
      omega
    subst e
    have h3 := h1.2
    have h4 := h2.2
    simp at h3 h4
    rw [bl_tri x y h3 h4]
theorem bl_asymm : ∀ x y : List UInt8, Op.bytesLess x y = true → Op.bytesLess y x = false
  | _, [], h => by cases ‹List UInt8› <;> simp [Op.bytesLess] at h
  | [], b :: y, _ => by simp [Op.bytesLess]
  | a :: x, b :: y, h => by
    simp only [Op.bytesLess, Bool.or_eq_true, Bool.and_eq_true, decide_eq_true_eq, beq_iff_eq] at h
    simp only [Op.bytesLess, Bool.or_eq_false_iff, Bool.and_eq_false_iff, decide_eq_false_iff_not, beq_eq_false_iff_ne]
    rcases h with h | ⟨rfl, h⟩
    · rw [UInt8.lt_iff_toNat_lt] at h
      refine ⟨by rw [UInt8.lt_iff_toNat_lt]; omega, .inl (fun e => by rw [e] at h; omega)⟩
    · exact ⟨by rw [UInt8.lt_iff_toNat_lt]; omega, .inr (bl_asymm x y h)⟩
theorem bl_trans : ∀ x y z : List UInt8, Op.bytesLess x y = true → Op.bytesLess y z = true → Op.bytesLess x z = true
  | _, [], _, h, _ => by cases ‹List UInt8› <;> simp [Op.bytesLess] at h
  | _, _ :: _, [], _, h => by simp [Op.bytesLess] at h
  | [], _ :: _, _ :: _, _, _ => by simp [Op.bytesLess]
  | a :: x, b :: y, c :: z, h1, h2 => by
    simp only [Op.bytesLess, Bool.or_eq_true, Bool.and_eq_true, decide_eq_true_eq, beq_iff_eq] at h1 h2 ⊢
    rcases h1 with h1 | ⟨rfl, h1⟩
    · rcases h2 with h2 | ⟨rfl, _⟩
      · rw [UInt8.lt_iff_toNat_lt] at h1 h2 ⊢
        exact .inl (by omega)
      · exact .inl h1
    · rcases h2 with h2 | ⟨rfl, h2⟩
      · exact .inl h2
      · exact .inr ⟨rfl, bl_trans x y z h1 h2⟩
/-- How two texts stand. -/
def cmpT (x y : ByteArray) : Int := if Op.bytesLess x.data.toList y.data.toList = true then -1 else if Op.bytesLess y.data.toList x.data.toList = true then 1 else 0
theorem eq_of_list {x y : ByteArray} (h : x.data.toList = y.data.toList) : x = y := by
  obtain ⟨⟨l⟩⟩ := x
  obtain ⟨⟨m⟩⟩ := y
  exact congrArg (fun l => (⟨⟨l⟩⟩ : ByteArray)) h
theorem cmpT_self (x : ByteArray) : cmpT x x = 0 := by unfold cmpT; rw [bl_irrefl]; rfl
theorem cmpT_zero {x y : ByteArray} (h : cmpT x y = 0) : x = y := by
  unfold cmpT at h
  cases h1 : Op.bytesLess x.data.toList y.data.toList with
  | true => rw [h1] at h; simp at h
  | false =>
    cases h2 : Op.bytesLess y.data.toList x.data.toList with
    | true => rw [h1, h2] at h; simp at h
    | false => exact eq_of_list (bl_tri _ _ h1 h2)
theorem cmpT_neg {x y : ByteArray} : cmpT x y < 0 ↔ Op.bytesLess x.data.toList y.data.toList = true := by
  unfold cmpT
  cases h1 : Op.bytesLess x.data.toList y.data.toList with
  | true => simp
  | false => cases h2 : Op.bytesLess y.data.toList x.data.toList <;> simp
theorem cmpT_swap (x y : ByteArray) : cmpT y x = - cmpT x y := by
  unfold cmpT
  cases h1 : Op.bytesLess x.data.toList y.data.toList with
  | true => rw [bl_asymm _ _ h1]; simp
  | false => cases h2 : Op.bytesLess y.data.toList x.data.toList <;> simp
/-- How two lists stand. -/
def cmpL : List ByteArray → List ByteArray → Int
  | [], [] => 0
  | [], _ :: _ => -1
  | _ :: _, [] => 1
  | a :: x, b :: y => if cmpT a b = 0 then cmpL x y else cmpT a b
theorem cmpL_zero : ∀ {x y}, cmpL x y = 0 → x = y
  | [], [], _ => rfl
  | [], _ :: _, h => by simp [cmpL] at h
  | _ :: _, [], h => by simp [cmpL] at h
  | a :: x, b :: y, h => by
    simp only [cmpL] at h
    by_cases e : cmpT a b = 0
    · rw [if_pos e] at h
      rw [cmpT_zero e, cmpL_zero h]
    · rw [if_neg e] at h
      exact absurd h e
theorem cmpL_swap : ∀ x y, cmpL y x = - cmpL x y
  | [], [] => rfl
  | [], _ :: _ => rfl
  | _ :: _, [] => rfl
  | a :: x, b :: y => by
    simp only [cmpL]
    rw [cmpT_swap a b]
    by_cases e : cmpT a b = 0
    · rw [if_pos e, if_pos (by omega), cmpL_swap x y]
    · rw [if_neg e, if_neg (by omega)]
theorem cmpL_trans : ∀ x y z, cmpL x y < 0 → cmpL y z < 0 → cmpL x z < 0
  | [], [], _, h, _ => by simp [cmpL] at h
  | [], _ :: _, [], _, h => by simp [cmpL] at h
  | [], _ :: _, _ :: _, _, _ => by simp [cmpL]
  | _ :: _, [], _, h, _ => by simp [cmpL] at h
  | _ :: _, _ :: _, [], _, h => by simp [cmpL] at h
  | a :: x, b :: y, c :: z, h1, h2 => by
    simp only [cmpL] at h1 h2 ⊢
    by_cases e1 : cmpT a b = 0
    · rw [if_pos e1] at h1
      have := cmpT_zero e1
      subst this
      by_cases e2 : cmpT a c = 0
      · rw [if_pos e2] at h2 ⊢
        exact cmpL_trans x y z h1 h2
      · rw [if_neg e2] at h2 ⊢
        exact h2
    · rw [if_neg e1] at h1
      by_cases e2 : cmpT b c = 0
      · have := cmpT_zero e2
        subst this
        rw [if_neg e1]
        exact h1
      · rw [if_neg e2] at h2
        have h3 : cmpT a c < 0 := cmpT_neg.2 (bl_trans _ _ _ (cmpT_neg.1 h1) (cmpT_neg.1 h2))
        rw [if_neg (by omega)]
        exact h3
end Go.Proofs.YtcmajhdgaeploaaDoor.PathOrd
