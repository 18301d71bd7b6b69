/- Names, and lists of them that are a path's: plain. -/
import Derived.Test.YtfihbohdhcidbaaDoorYPathSpl
import Derived.Lib.IndexLaws
namespace Go.Proofs.YtfihbohdhcidbaaDoor.PathOrd
open Go
/-- Is a text a name? -/
def nameB (a : ByteArray) : Bool := decide (a.data.toList ≠ [] ∧ a.data.toList ≠ [46] ∧ a.data.toList ≠ [46, 46] ∧ a.size ≤ 64 ∧ Lib.indexByte a.data.toList 0 < 0 ∧ Lib.indexByte a.data.toList 47 < 0)
theorem nameB_size {a : ByteArray} (h : nameB a = true) : a.size ≤ 64 := (of_decide_eq_true h).2.2.2.1
theorem no_byte {l : List UInt8} {c : UInt8} (h : Lib.indexByte l c < 0) : ∀ x ∈ l, x ≠ c := by
  have e : Lib.indexByte l c = -1 := by have := Lib.indexByte_ge l c; omega
  intro x hx he
  subst he
  obtain ⟨k, hk⟩ := List.getElem?_of_mem hx
  exact Lib.indexByte_none e k hk
/-- The lengths of names with a slash behind each. -/
def total : List ByteArray → Nat
  | [] => 0
  | a :: L => a.size + 1 + total L
theorem jn_parts (p : ByteArray) : jn ((parts p).map (·.data.toList)) = p.data.toList := by
  by_cases h : p.data.toList = []
  · unfold parts
    rw [if_pos h, h]
    rfl
  · rw [parts_list p h, jn_spl]
/-- Are names a path's? -/
def isB (L : List ByteArray) : Bool := L.all nameB && decide (0 < L.length ∧ L.length ≤ 4096 ∧ (total L : Int) - 1 ≤ 65536)
theorem isB_all {L : List ByteArray} (h : isB L = true) : ∀ x ∈ L, nameB x = true := by
  simp only [isB, Bool.and_eq_true, List.all_eq_true] at h
  exact h.1
/-- The text of names with slashes between. -/
def jnT (L : List ByteArray) : ByteArray := ⟨(jn (L.map (·.data.toList))).toArray⟩
end Go.Proofs.YtfihbohdhcidbaaDoor.PathOrd
