/- Bytes as numbers, own rows of bytes: small words. -/
import Derived.Test.YtfihbohdhcidbaaDoorProg
import Derived.Test.YtfihbohdhcidbaaDoorWWords
import Derived.Test.YtfihbohdhcidbaaDoorWLast
import Derived.Test.YtfihbohdhcidbaaDoorWMore
import Derived.Test.YtfihbohdhcidbaaDoorYBlk
import Derived.WalkKit
namespace Go.Proofs.YtfihbohdhcidbaaDoor.Sha
open Go Go.RowKit Go.Proofs.YtfihbohdhcidbaaDoorW.PrintWords Go.Proofs.YtfihbohdhcidbaaDoorW.PrintLast Go.Proofs.YtfihbohdhcidbaaDoorW.PrintMore
set_option linter.unusedVariables false
set_option linter.unusedSimpArgs false

/-- Bytes as numbers. -/
def bl (l : List UInt8) : List Int := l.map fun b => ((b.toNat : Nat) : Int)
theorem bl_length (l : List UInt8) : (bl l).length = l.length := by simp [bl]
theorem bl_append (l m : List UInt8) : bl (l ++ m) = bl l ++ bl m := by simp [bl]
theorem bl_drop (l : List UInt8) (n : Nat) : (bl l).drop n = bl (l.drop n) := by simp [bl]
theorem bl_at (l : List UInt8) (j : Nat) : (bl l).getD j 0 = (((l.getD j 0).toNat : Nat) : Int) := by
  unfold bl
  rw [List.getD_eq_getElem?_getD, List.getD_eq_getElem?_getD, List.getElem?_map]
  cases l[j]? <;> rfl
theorem own_shape {B n : Nat} {w : World} {v : Value} {xs : List Value} (h : w.ownsRow B 5 1 v n xs) : ∃ A c, v = .slice A n c ∧ n ≤ c := by
  rcases h.2 with ⟨rfl, rfl⟩ | ⟨g, cap, cur, rfl, _, _, hn, _⟩
  · exact ⟨none, 0, rfl, Nat.le_refl _⟩
  · exact ⟨some ⟨g, 0, none⟩, cap, rfl, hn⟩
theorem info8 : (Tryd.prog.info? 5).map (fun i => (i.zero, i.size, i.bytes)) = some (some (.int .u8 0), 1, 1) := by kernel_rfl
theorem wrapN {a : Nat} (h : a ≤ 4611686018427387904) : wrap64 (a : Int) = (a : Int) := by unfold wrap64; omega
theorem keep_set {w w1 : World} {g : Nat} {row : Option Nat} (h : KeepBut w w1 g row) (j : Nat) (u : Value) : KeepBut w (w1.setCell ⟨g, j, none⟩ u) g row := h.set_ j u
end Go.Proofs.YtfihbohdhcidbaaDoor.Sha
