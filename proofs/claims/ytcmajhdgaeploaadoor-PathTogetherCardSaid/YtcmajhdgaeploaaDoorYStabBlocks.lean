/- Blocks of a row in order, and blocks of twice their length: plain. -/
import Derived.Test.YtcmajhdgaeploaaDoorYStabMerge
namespace Go.Proofs.YtcmajhdgaeploaaDoor.Stab
set_option linter.unusedVariables false
/-- All blocks of bs numbers, from the one numbered f on, are in order. -/
def Blk (o : Int → Int → Int) (bs n f : Nat) (xs : List Int) : Prop := ∀ q, f ≤ q → Srt o (q * bs) (min ((q + 1) * bs) n) xs
/-- All blocks ahead of the one numbered f are in order. -/
def Pre (o : Int → Int → Int) (bs f : Nat) (xs : List Int) : Prop := ∀ q, q < f → Srt o (q * bs) ((q + 1) * bs) xs
theorem mul_le_of_lt {q f bs : Nat} (h : q < f) : (q + 1) * bs ≤ f * bs := Nat.mul_le_mul_right _ h
theorem Pre.step {o : Int → Int → Int} {bs f : Nat} {xs ys : List Int} (h : Pre o bs f xs) (hm : Mrg o (f * bs) ((f + 1) * bs) xs ys) : Pre o bs (f + 1) ys := fun q hq => by
  by_cases e : q = f
  · subst e; exact hm.srt
  · have := mul_le_of_lt (bs := bs) (show q < f by omega)
    exact (h q (by omega)).same fun k _ h2 => hm.sh.out k (.inl (by omega))
theorem Pre.whole {o : Int → Int → Int} {bs f n : Nat} {xs ys : List Int} (h : Pre o bs f xs) (hn : n < (f + 1) * bs) (hm : Mrg o (f * bs) n xs ys) : Blk o bs n 0 ys := fun q _ => by
  by_cases e : q < f
  · have := mul_le_of_lt (bs := bs) e
    exact ((h q e).same fun k _ h2 => hm.sh.out k (.inl (by omega))).narrow (Nat.le_refl _) (Nat.min_le_left _ _)
  · by_cases e2 : q = f
    · subst e2
      exact hm.srt.narrow (Nat.le_refl _) (Nat.min_le_right _ _)
    · have := mul_le_of_lt (bs := bs) (show f < q by omega)
      exact Srt.one o (by have := Nat.min_le_right ((q + 1) * bs) n; omega) _
theorem Blk.whole {o : Int → Int → Int} {bs n : Nat} {xs : List Int} (h : Blk o bs n 0 xs) (hn : n ≤ bs) : Srt o 0 n xs := by
  have := h 0 (Nat.le_refl _)
  rw [Nat.zero_mul, Nat.zero_add, Nat.one_mul, Nat.min_eq_right hn] at this
  exact this
theorem dbl (q bs : Nat) : (2 * q) * bs = q * (2 * bs) := by rw [Nat.mul_comm 2 q, Nat.mul_assoc]
theorem suc (q bs : Nat) : (q + 1) * bs = q * bs + bs := Nat.succ_mul q bs
/-- Two blocks that are to be merged. -/
theorem Blk.two {o : Int → Int → Int} {bs n f : Nat} {xs : List Int} (h : Blk o bs n (2 * f) xs) : Srt o (f * (2 * bs)) (min (f * (2 * bs) + bs) n) xs ∧ Srt o (f * (2 * bs) + bs) (min (f * (2 * bs) + 2 * bs) n) xs := by
  have h1 := h (2 * f) (Nat.le_refl _)
  have h2 := h (2 * f + 1) (by omega)
  rw [suc (2 * f) bs, dbl] at h1
  rw [suc (2 * f + 1) bs, suc (2 * f) bs, dbl, show f * (2 * bs) + bs + bs = f * (2 * bs) + 2 * bs by omega] at h2
  exact ⟨h1, h2⟩
theorem Blk.step {o : Int → Int → Int} {bs n f : Nat} {xs ys : List Int} (h : Blk o bs n (2 * f) xs) (hm : Mrg o (f * (2 * bs)) ((f + 1) * (2 * bs)) xs ys) : Blk o bs n (2 * (f + 1)) ys := fun q hq => by
  have h1 : (2 * (f + 1)) * bs ≤ q * bs := Nat.mul_le_mul_right _ hq
  rw [dbl] at h1
  exact (h q (by omega)).same fun k h2 _ => hm.sh.out k (.inr (by omega))
/-- Where nothing more is to be merged, the blocks are of twice the length. -/
theorem double {o : Int → Int → Int} {bs n f : Nat} {xs : List Int} (h : Pre o (2 * bs) f xs) (hn : n < (f + 1) * (2 * bs)) (hs : Srt o (f * (2 * bs)) n xs) : Blk o (2 * bs) n 0 xs := fun q _ => by
  by_cases e : q < f
  · exact (h q e).narrow (Nat.le_refl _) (Nat.min_le_left _ _)
  · by_cases e2 : q = f
    · subst e2
      exact hs.narrow (Nat.le_refl _) (Nat.min_le_right _ _)
    · have := mul_le_of_lt (bs := 2 * bs) (show f < q by omega)
      exact Srt.one o (by have := Nat.min_le_right ((q + 1) * (2 * bs)) n; omega) _
theorem Pre.last {o : Int → Int → Int} {bs f n : Nat} {xs ys : List Int} (h : Pre o bs f xs) (hm : Mrg o (f * bs) n xs ys) : Pre o bs f ys := fun q hq => by
  have := mul_le_of_lt (bs := bs) hq
  exact (h q hq).same fun k _ h2 => hm.sh.out k (.inl (by omega))
end Go.Proofs.YtcmajhdgaeploaaDoor.Stab
