/- Texts and lists of texts in order: plain. -/
import Derived.Laws.Strings
import Derived.Laws.Entries
namespace Go.Proofs.Ytfihbohdhcidbaa.PathOrd
open Go
theorem bl_irrefl : ∀ l : List UInt8, Op.bytesLess l l = false
  | [] => rfl
  | a :: x => by simp [Op.bytesLess, bl_irrefl x]
theorem bl_tri : ∀ x y : List UInt8, Op.bytesLess x y = false → Op.bytesLess y x = false → x = y
  | [], [], _, _ => rfl
  | [], b :: y, h, _ => by simp [Op.bytesLess] at h
  | a :: x, [], _, h => by simp [Op.bytesLess] at h
  | a :: x, b :: y, h1, h2 => by
    simp only [Op.bytesLess, Bool.or_eq_false_iff, decide_eq_false_iff_not] at h1 h2
    have e : a = b := by
      apply UInt8.toNat_inj.1
      have n1 := h1.1
      have n2 := h2.1
      simp only [UInt8.lt_iff_toNat_lt] at n1 n2
      omega
    subst e
    have h3 := h1.2
    have h4 := h2.2
    simp at h3 h4
    rw [bl_tri x y h3 h4]
theorem bl_asymm : ∀ x y : List UInt8, Op.bytesLess x y = true → Op.bytesLess y x = false
  | _, [], h => by cases ‹List UInt8› <;> simp [Op.bytesLess] at h
  | [], b :: y, _ => by simp [Op.bytesLess]
  | a :: x, b :: y, h => by
    simp only [Op.bytesLess, Bool.or_eq_true, Bool.and_eq_true, decide_eq_true_eq, beq_iff_eq] at h
    simp only [Op.bytesLess, Bool.or_eq_false_iff, Bool.and_eq_false_iff, decide_eq_false_iff_not, beq_eq_false_iff_ne]
    rcases h with h | ⟨rfl, h⟩
    · rw [UInt8.lt_iff_toNat_lt] at h
      refine ⟨by rw [UInt8.lt_iff_toNat_lt]; omega, .inl (fun e => by rw [e] at h; omega)⟩
    · exact ⟨by rw [UInt8.lt_iff_toNat_lt]; omega, .inr (bl_asymm x y h)⟩
/-- How two texts stand. -/
def cmpT (x y : ByteArray) : Int := if Op.bytesLess x.data.toList y.data.toList = true then -1 else if Op.bytesLess y.data.toList x.data.toList = true then 1 else 0
/-- How two lists stand. -/
def cmpL : List ByteArray → List ByteArray → Int
  | [], [] => 0
  | [], _ :: _ => -1
  | _ :: _, [] => 1
  | a :: x, b :: y => if cmpT a b = 0 then cmpL x y else cmpT a b
end Go.Proofs.Ytfihbohdhcidbaa.PathOrd
