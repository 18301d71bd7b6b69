/- Names, and lists of them that are a path's: plain. -/
import Derived.Test.YtcmajhdgaeploaaDoorYPathSpl
import Derived.Lib.IndexLaws
namespace Go.Proofs.YtcmajhdgaeploaaDoor.PathOrd
open Go
/-- Is a text a name? -/
def nameB (a : ByteArray) : Bool := decide (a.data.toList ≠ [] ∧ a.data.toList ≠ [46] ∧ a.data.toList ≠ [46, 46] ∧ a.size ≤ 64 ∧ Lib.indexByte a.data.toList 0 < 0 ∧ Lib.indexByte a.data.toList 47 < 0)
/-- The lengths of names with a slash behind each. -/
def total : List ByteArray → Nat
  | [] => 0
  | a :: L => a.size + 1 + total L
theorem total_append : ∀ L M : List ByteArray, total (L ++ M) = total L + total M
  | [], _ => by simp [total]
  | a :: L, M => by rw [List.cons_append]; simp only [total]; rw [total_append L M]; omega
theorem total_len : ∀ L : List ByteArray, L.length ≤ total L
  | [] => Nat.le_refl _
  | a :: L => by have := total_len L; simp only [total, List.length_cons]; omega
theorem total_take (L : List ByteArray) (n : Nat) : total (L.take n) ≤ total L := by
  have h := total_append (L.take n) (L.drop n)
  rw [List.take_append_drop] at h
  omega
theorem total_drop (L : List ByteArray) (n : Nat) : total (L.drop n) ≤ total L := by
  have h := total_append (L.take n) (L.drop n)
  rw [List.take_append_drop] at h
  omega
theorem jn_total : ∀ L : List ByteArray, L ≠ [] → (jn (L.map (·.data.toList))).length + 1 = total L
  | [], h => absurd rfl h
  | [a], _ => by simp [jn, total]
  | a :: b :: L, _ => by
    have ih := jn_total (b :: L) (by simp)
    simp only [List.map_cons] at ih ⊢
    rw [jn_cons _ _ (by simp)]
    rw [total, ← ih]
    simp
    omega
theorem jn_len (L : List ByteArray) : (jn (L.map (·.data.toList))).length ≤ total L := by
  by_cases h : L = []
  · subst h; simp [jn]
  · have := jn_total L h; omega
theorem jn_parts (p : ByteArray) : jn ((parts p).map (·.data.toList)) = p.data.toList := by
  by_cases h : p.data.toList = []
  · unfold parts
    rw [if_pos h, h]
    rfl
  · rw [parts_list p h, jn_spl]
theorem total_parts (p : ByteArray) : total (parts p) ≤ p.size + 1 := by
  by_cases h : parts p = []
  · rw [h]; simp [total]
  · have h1 := jn_total (parts p) h
    rw [jn_parts] at h1
    have : p.data.toList.length = p.size := by simp
    omega
/-- Are names a path's? -/
def isB (L : List ByteArray) : Bool := L.all nameB && decide (0 < L.length ∧ L.length ≤ 4096 ∧ (total L : Int) - 1 ≤ 65536)
/-- The text of names with slashes between. -/
def jnT (L : List ByteArray) : ByteArray := ⟨(jn (L.map (·.data.toList))).toArray⟩
theorem jnT_one (x : ByteArray) : jnT [x] = x := eq_of_list rfl
theorem jnT_nil : jnT [] = ⟨#[]⟩ := rfl
theorem jnT_snoc (L : List ByteArray) (x : ByteArray) (h : L ≠ []) : jnT (L ++ [x]) = jnT L ++ ⟨#[47]⟩ ++ x := by
  apply eq_of_list
  unfold jnT
  simp only [List.map_append, List.map_cons, List.map_nil]
  have hm : L.map (·.data.toList) ≠ [] := fun e => h (List.map_eq_nil_iff.1 e)
  rw [jn_snoc _ _ hm]
  simp
theorem jnT_size (L : List ByteArray) : (jnT L).size ≤ total L := by
  have := jn_len L
  unfold jnT
  simpa [ByteArray.size] using this
end Go.Proofs.YtcmajhdgaeploaaDoor.PathOrd
