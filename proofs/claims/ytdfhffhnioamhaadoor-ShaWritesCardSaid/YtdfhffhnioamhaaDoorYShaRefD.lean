/- The document's sum of a whole text, padded, block by block, is the sum of the pieces' way: plain. -/
import Derived.Test.YtdfhffhnioamhaaDoorYShaRefT
namespace Go.Proofs.YtdfhffhnioamhaaDoor.Sha
open Go
/-- The j-th block. -/
def blkL (l : List UInt8) (j : Nat) : List UInt8 := (l.drop (64 * j)).take 64
/-- Behind j blocks. -/
def sts (s : S8) (l : List UInt8) : Nat → S8
  | 0 => s
  | j + 1 => take (sts s l j) (blkL l j)
theorem blkL_drop (l : List UInt8) (j : Nat) : blkL (l.drop 64) j = blkL l (j + 1) := by
  unfold blkL
  rw [List.drop_drop, show 64 + 64 * j = 64 * (j + 1) by omega]
theorem sts_front (s : S8) (l : List UInt8) : ∀ n, sts (take s (blkL l 0)) (l.drop 64) n = sts s l (n + 1)
  | 0 => rfl
  | n + 1 => by
    show take (sts (take s (blkL l 0)) (l.drop 64) n) (blkL (l.drop 64) n) = take (sts s l (n + 1)) (blkL l (n + 1))
    rw [sts_front s l n, blkL_drop]
theorem absorb_sts : ∀ (n : Nat) (s : S8) (l : List UInt8), 64 * n ≤ l.length → absorb n s l = (sts s l n, l.drop (64 * n))
  | 0, s, l, _ => by simp [absorb, sts]
  | n + 1, s, l, h => by
    rw [absorb, if_pos (by omega), absorb_sts n _ _ (by rw [List.length_drop]; omega), List.drop_drop, show 64 + 64 * n = 64 * (n + 1) by omega]
    have e : l.take 64 = blkL l 0 := by simp [blkL]
    rw [e, sts_front]
theorem eat_sts (s : S8) (l : List UInt8) (m : Nat) (h : l.length = 64 * m) : (eat s l).1 = sts s l m := by
  unfold eat
  rw [h, show 64 * m / 64 = m by omega, absorb_sts m s l (by omega)]
theorem zeros_mod (n : Nat) : zeros (n % 64) = zeros n := by unfold zeros; rw [Nat.mod_mod]
theorem tail_mod (n long : Nat) : tail (n % 64) long = tail n long := by unfold tail; rw [zeros_mod]
theorem be8_length (n : Nat) : (be8 n).length = 8 := rfl
theorem tail_len (n long : Nat) : (tail n long).length = 9 + zeros n := by simp [tail, be8_length]; omega
theorem whole_len (n : Nat) : ∃ m, n + (9 + zeros n) = 64 * m := by unfold zeros; exact ⟨(n + (9 + (119 - n % 64) % 64)) / 64, by omega⟩
theorem pad_stops (n z : Nat) (h : z < zeros n) : (n + 1 + z) % 64 ≠ 56 := by unfold zeros at h; omega
theorem pad_ends (n : Nat) : (n + 1 + zeros n) % 64 = 56 := by unfold zeros; omega
/-- The sum is what stands behind all blocks of the padded text. -/
theorem digest_whole (l : List UInt8) (m : Nat) (h : l.length + (9 + zeros l.length) = 64 * m) : digest l = out (sts init (l ++ tail l.length l.length) m) := by
  unfold digest fin
  rw [eat_left _ _ _ (Nat.le_refl _), tail_mod, ← eat_pieces, eat_sts _ _ m (by rw [List.length_append, tail_len]; exact h)]
theorem out_at (s : S8) (i : Nat) (h : i < 8) : (out s).take (4 * (i + 1)) = (out s).take (4 * i) ++ be4 (s.at i) := by
  have h : i = 0 ∨ i = 1 ∨ i = 2 ∨ i = 3 ∨ i = 4 ∨ i = 5 ∨ i = 6 ∨ i = 7 := by omega
  rcases h with rfl | rfl | rfl | rfl | rfl | rfl | rfl | rfl <;> rfl
end Go.Proofs.YtdfhffhnioamhaaDoor.Sha
