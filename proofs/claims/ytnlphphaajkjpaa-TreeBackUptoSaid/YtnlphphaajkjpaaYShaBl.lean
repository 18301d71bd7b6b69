/- Bytes as numbers, own rows of bytes: small words. -/
import Derived.Test.YtnlphphaajkjpaaProg
import Derived.Test.YtnlphphaajkjpaaWWords
import Derived.Test.YtnlphphaajkjpaaWLast
import Derived.Test.YtnlphphaajkjpaaWMore
import Derived.Test.YtnlphphaajkjpaaYBlk
import Derived.WalkKit
namespace Go.Proofs.Ytnlphphaajkjpaa.Sha
open Go Go.RowKit Go.Proofs.YtnlphphaajkjpaaW.PrintWords Go.Proofs.YtnlphphaajkjpaaW.PrintLast Go.Proofs.YtnlphphaajkjpaaW.PrintMore
set_option linter.unusedVariables false
set_option linter.unusedSimpArgs false

/-- Bytes as numbers. -/
def bl (l : List UInt8) : List Int := l.map fun b => ((b.toNat : Nat) : Int)
theorem bl_length (l : List UInt8) : (bl l).length = l.length := by simp [bl]
theorem bl_append (l m : List UInt8) : bl (l ++ m) = bl l ++ bl m := by simp [bl]
theorem own_shape {B n : Nat} {w : World} {v : Value} {xs : List Value} (h : w.ownsRow B 5 1 v n xs) : ∃ A c, v = .slice A n c ∧ n ≤ c := by
  rcases h.2 with ⟨rfl, rfl⟩ | ⟨g, cap, cur, rfl, _, _, hn, _⟩
  · exact ⟨none, 0, rfl, Nat.le_refl _⟩
  · exact ⟨some ⟨g, 0, none⟩, cap, rfl, hn⟩
theorem info8 : (Try.prog.info? 5).map (fun i => (i.zero, i.size, i.bytes)) = some (some (.int .u8 0), 1, 1) := by kernel_rfl
theorem keep_set {w w1 : World} {g : Nat} {row : Option Nat} (h : KeepBut w w1 g row) (j : Nat) (u : Value) : KeepBut w (w1.setCell ⟨g, j, none⟩ u) g row := h.set_ j u
end Go.Proofs.Ytnlphphaajkjpaa.Sha
