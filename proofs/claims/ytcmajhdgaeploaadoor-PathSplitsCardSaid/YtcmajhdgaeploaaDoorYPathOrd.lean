/- Texts and lists of texts in order: plain. -/
import Derived.Laws.Strings
import Derived.Laws.Entries
namespace Go.Proofs.YtcmajhdgaeploaaDoor.PathOrd
open Go
theorem bl_irrefl : ∀ l : List UInt8, Op.bytesLess l l = false
  | [] => rfl
  | a :: x => by simp [Op.bytesLess, bl_irrefl x]
theorem bl_tri : ∀ x y : List UInt8, Op.bytesLess x y = false → Op.bytesLess y x = false → x = y
  | [], [], _, _ => rfl
  | [], b :: y, h, _ => by simp [Op.bytesLess] at h
  | a :: x, [], _, h => by simp [Op.bytesLess] at h
  | a :: x, b :: y, h1, h2 => by
    simp only [Op.bytesLess, Bool.or_eq_false_iff, decide_eq_false_iff_not] at h1 h2
    have e : a = b := by
      apply UInt8.toNat_inj.1
      have n1 := h1.1
      have n2 := h2.1
      simp only [UInt8.lt_iff_toNat_lt] at n1 n2
      omega
    subst e
    have h3 := h1.2
    have h4 := h2.2
    simp at h3 h4
    rw [bl_tri x y h3 h4]
/-- How two texts stand. -/
def cmpT (x y : ByteArray) : Int := if Op.bytesLess x.data.toList y.data.toList = true then -1 else if Op.bytesLess y.data.toList x.data.toList = true then 1 else 0
theorem eq_of_list {x y : ByteArray} (h : x.data.toList = y.data.toList) : x = y := by
  obtain ⟨⟨l⟩⟩ := x
  obtain ⟨⟨m⟩⟩ := y
  exact congrArg (fun l => (⟨⟨l⟩⟩ : ByteArray)) h
/-- How two lists stand. -/
def cmpL : List ByteArray → List ByteArray → Int
  | [], [] => 0
  | [], _ :: _ => -1
  | _ :: _, [] => 1
  | a :: x, b :: y => if cmpT a b = 0 then cmpL x y else cmpT a b
end Go.Proofs.YtcmajhdgaeploaaDoor.PathOrd
