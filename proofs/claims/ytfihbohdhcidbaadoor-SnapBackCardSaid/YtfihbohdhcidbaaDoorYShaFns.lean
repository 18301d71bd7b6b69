/- SHA-256 as plain functions on 32-bit words: a block's words, a block taken in, bytes absorbed, the sum; and their laws. No program in it. -/
import Derived.Laws.Entries
namespace Go.Proofs.YtfihbohdhcidbaaDoor.Sha
open Go
abbrev W32 := BitVec 32
/-- Turned to the right. -/
def rr (x : W32) (n : Nat) : W32 := (x >>> n) ||| (x <<< (32 - n))
def wd (l : List W32) (i : Nat) : W32 := l.getD i 0
def sig0 (x : W32) : W32 := rr x 7 ^^^ rr x 18 ^^^ (x >>> 3)
def sig1 (x : W32) : W32 := rr x 17 ^^^ rr x 19 ^^^ (x >>> 10)
/-- The word behind i words. -/
def nextW (l : List W32) (i : Nat) : W32 := wd l (i - 16) + sig0 (wd l (i - 15)) + wd l (i - 7) + sig1 (wd l (i - 2))
def by8 (l : List UInt8) (i : Nat) : W32 := BitVec.ofNat 32 (l.getD i 0).toNat
/-- A word of four bytes. -/
def w4 (l : List UInt8) (i : Nat) : W32 := (by8 l (4 * i) <<< 24) ||| (by8 l (4 * i + 1) <<< 16) ||| (by8 l (4 * i + 2) <<< 8) ||| by8 l (4 * i + 3)
def first16 (l : List UInt8) : Nat → List W32
  | 0 => []
  | n + 1 => first16 l n ++ [w4 l n]
def expand (l : List W32) : Nat → List W32
  | 0 => l
  | n + 1 => expand l n ++ [nextW (expand l n) (l.length + n)]
/-- The 64 words of a block. -/
def spread (l : List UInt8) : List W32 := expand (first16 l 16) 48
def K : List W32 := [0x428a2f98, 0x71374491, 0xb5c0fbcf, 0xe9b5dba5, 0x3956c25b, 0x59f111f1, 0x923f82a4, 0xab1c5ed5,
  0xd807aa98, 0x12835b01, 0x243185be, 0x550c7dc3, 0x72be5d74, 0x80deb1fe, 0x9bdc06a7, 0xc19bf174,
  0xe49b69c1, 0xefbe4786, 0x0fc19dc6, 0x240ca1cc, 0x2de92c6f, 0x4a7484aa, 0x5cb0a9dc, 0x76f988da,
  0x983e5152, 0xa831c66d, 0xb00327c8, 0xbf597fc7, 0xc6e00bf3, 0xd5a79147, 0x06ca6351, 0x14292967,
  0x27b70a85, 0x2e1b2138, 0x4d2c6dfc, 0x53380d13, 0x650a7354, 0x766a0abb, 0x81c2c92e, 0x92722c85,
  0xa2bfe8a1, 0xa81a664b, 0xc24b8b70, 0xc76c51a3, 0xd192e819, 0xd6990624, 0xf40e3585, 0x106aa070,
  0x19a4c116, 0x1e376c08, 0x2748774c, 0x34b0bcb5, 0x391c0cb3, 0x4ed8aa4a, 0x5b9cca4f, 0x682e6ff3,
  0x748f82ee, 0x78a5636f, 0x84c87814, 0x8cc70208, 0x90befffa, 0xa4506ceb, 0xbef9a3f7, 0xc67178f2]
/-- Eight words. -/
structure S8 where
  a : W32
  b : W32
  c : W32
  d : W32
  e : W32
  f : W32
  g : W32
  h : W32
deriving DecidableEq
def S8.l (s : S8) : List W32 := [s.a, s.b, s.c, s.d, s.e, s.f, s.g, s.h]
def S8.add (s t : S8) : S8 := ⟨s.a + t.a, s.b + t.b, s.c + t.c, s.d + t.d, s.e + t.e, s.f + t.f, s.g + t.g, s.h + t.h⟩
def tOne (k w : W32) (s : S8) : W32 := s.h + (rr s.e 6 ^^^ rr s.e 11 ^^^ rr s.e 25) + ((s.e &&& s.f) ^^^ (~~~ s.e &&& s.g)) + k + w
def tTwo (s : S8) : W32 := (rr s.a 2 ^^^ rr s.a 13 ^^^ rr s.a 22) + ((s.a &&& s.b) ^^^ (s.a &&& s.c) ^^^ (s.b &&& s.c))
def round (k w : W32) (s : S8) : S8 := ⟨tOne k w s + tTwo s, s.a, s.b, s.c, s.d + tOne k w s, s.e, s.f, s.g⟩
def rounds (w : List W32) (s : S8) : Nat → S8
  | 0 => s
  | n + 1 => round (wd K n) (wd w n) (rounds w s n)
/-- A block is taken in. -/
def take (s : S8) (block : List UInt8) : S8 := s.add (rounds (spread block) s 64)
/-- Whole blocks are taken in; what is left. -/
def absorb : Nat → S8 → List UInt8 → S8 × List UInt8
  | 0, s, l => (s, l)
  | n + 1, s, l => if 64 ≤ l.length then absorb n (take s (l.take 64)) (l.drop 64) else (s, l)
def eat (s : S8) (l : List UInt8) : S8 × List UInt8 := absorb (l.length / 64) s l
def init : S8 := ⟨0x6a09e667, 0xbb67ae85, 0x3c6ef372, 0xa54ff53a, 0x510e527f, 0x9b05688c, 0x1f83d9ab, 0x5be0cd19⟩
/-- The bytes of the length in bits. -/
def be8 (n : Nat) : List UInt8 := [UInt8.ofNat (n / 2 ^ 56), UInt8.ofNat (n / 2 ^ 48), UInt8.ofNat (n / 2 ^ 40), UInt8.ofNat (n / 2 ^ 32), UInt8.ofNat (n / 2 ^ 24), UInt8.ofNat (n / 2 ^ 16), UInt8.ofNat (n / 2 ^ 8), UInt8.ofNat n]
/-- How many zeros stand behind the bit. -/
def zeros (n : Nat) : Nat := (119 - n % 64) % 64
def tail (rest long : Nat) : List UInt8 := 128 :: List.replicate (zeros rest) 0 ++ be8 (long * 8)
def be4 (x : W32) : List UInt8 := [UInt8.ofNat (x.toNat / 2 ^ 24), UInt8.ofNat (x.toNat / 2 ^ 16), UInt8.ofNat (x.toNat / 2 ^ 8), UInt8.ofNat x.toNat]
def out (s : S8) : List UInt8 := be4 s.a ++ be4 s.b ++ be4 s.c ++ be4 s.d ++ be4 s.e ++ be4 s.f ++ be4 s.g ++ be4 s.h
/-- The sum of what was written, from what is left of it. -/
def fin (s : S8) (rest : List UInt8) (long : Nat) : List UInt8 := out (eat s (rest ++ tail rest.length long)).1
/-- The sum of bytes. -/
def digest (l : List UInt8) : List UInt8 := fin (eat init l).1 (eat init l).2 l.length

theorem eat_step (s : S8) (l : List UInt8) (h : 64 ≤ l.length) : eat s l = eat (take s (l.take 64)) (l.drop 64) := by
  unfold eat
  obtain ⟨m, hm⟩ : ∃ m, l.length / 64 = m + 1 := ⟨l.length / 64 - 1, by omega⟩
  rw [hm]
  simp only [absorb]
  rw [if_pos h, List.length_drop, show (l.length - 64) / 64 = m by omega]
theorem eat_short (s : S8) (l : List UInt8) (h : l.length < 64) : eat s l = (s, l) := by
  unfold eat
  rw [show l.length / 64 = 0 by omega]
  rfl
theorem eat_append : ∀ (n : Nat) (s : S8) (l m : List UInt8), l.length ≤ n → eat s (l ++ m) = eat (eat s l).1 ((eat s l).2 ++ m) := by
  intro n
  induction n with
  | zero =>
    intro s l m h
    rw [eat_short s l (by omega)]
  | succ n ih =>
    intro s l m h
    by_cases c : 64 ≤ l.length
    · rw [eat_step s l c, eat_step s (l ++ m) (by rw [List.length_append]; omega), List.take_append_of_le_length c, List.drop_append_of_le_length c]
      exact ih _ _ m (by rw [List.length_drop]; omega)
    · rw [eat_short s l (by omega)]
theorem eat_left : ∀ (n : Nat) (s : S8) (l : List UInt8), l.length ≤ n → (eat s l).2.length = l.length % 64 := by
  intro n
  induction n with
  | zero => intro s l h; rw [eat_short s l (by omega)]; show l.length = _; omega
  | succ n ih =>
    intro s l h
    by_cases c : 64 ≤ l.length
    · rw [eat_step s l c, ih _ _ (by rw [List.length_drop]; omega), List.length_drop]; omega
    · rw [eat_short s l (by omega)]; show l.length = _; omega
/-- In whatever pieces. -/
theorem eat_pieces (s : S8) (l m : List UInt8) : eat s (l ++ m) = eat (eat s l).1 ((eat s l).2 ++ m) := eat_append l.length s l m (Nat.le_refl _)
theorem out_length (s : S8) : (out s).length = 32 := rfl
theorem digest_length (l : List UInt8) : (digest l).length = 32 := rfl

theorem first16_length (l : List UInt8) : ∀ n, (first16 l n).length = n
  | 0 => rfl
  | n + 1 => by simp [first16, first16_length l n]
theorem expand_length (l : List W32) : ∀ n, (expand l n).length = l.length + n
  | 0 => rfl
  | n + 1 => by simp [expand, expand_length l n]; omega
theorem spread_length (l : List UInt8) : (spread l).length = 64 := by unfold spread; rw [expand_length, first16_length]

/-! What the machine's operations on 32 bits are. -/
theorem wrap32 (n : Nat) : IntKind.u32.wrap (n : Int) = ((n % 2 ^ 32 : Nat) : Int) := by
  unfold IntKind.wrap
  simp [IntKind.bits, IntKind.signed]
theorem wrap_toNat (x : W32) : IntKind.u32.wrap (x.toNat : Int) = (x.toNat : Int) := by rw [wrap32, Nat.mod_eq_of_lt x.isLt]
theorem ofInt_toNat (x : W32) : BitVec.ofInt IntKind.u32.bits (x.toNat : Int) = x := by
  show BitVec.ofInt 32 (x.toNat : Int) = x
  rw [BitVec.ofInt_natCast, BitVec.ofNat_toNat, BitVec.setWidth_eq]
theorem n_xor (x y : W32) : Go.bits .xor .u32 (x.toNat : Int) (y.toNat : Int) = ((x ^^^ y).toNat : Int) := by
  unfold Go.bits
  rw [ofInt_toNat, ofInt_toNat]
  exact wrap_toNat (x ^^^ y)
theorem n_or (x y : W32) : Go.bits .or .u32 (x.toNat : Int) (y.toNat : Int) = ((x ||| y).toNat : Int) := by
  unfold Go.bits
  rw [ofInt_toNat, ofInt_toNat]
  exact wrap_toNat (x ||| y)
theorem n_and (x y : W32) : Go.bits .and .u32 (x.toNat : Int) (y.toNat : Int) = ((x &&& y).toNat : Int) := by
  unfold Go.bits
  rw [ofInt_toNat, ofInt_toNat]
  exact wrap_toNat (x &&& y)
theorem n_not (x : W32) : Go.bits .xor .u32 4294967295 (x.toNat : Int) = ((~~~ x).toNat : Int) := by
  have h := n_xor (BitVec.allOnes 32) x
  rw [BitVec.allOnes_xor] at h
  exact h
theorem n_add (x y : W32) : IntKind.u32.wrap ((x.toNat : Int) + (y.toNat : Int)) = ((x + y).toNat : Int) := by
  rw [BitVec.toNat_add, ← wrap32]; rfl
theorem n_shr (x : W32) (n : Nat) : (x.toNat : Int) / 2 ^ n = ((x >>> n).toNat : Int) := by
  rw [BitVec.toNat_ushiftRight, Nat.shiftRight_eq_div_pow]; norm_cast
theorem n_shl (x : W32) (n : Nat) : IntKind.u32.wrap ((x.toNat : Int) * 2 ^ n) = ((x <<< n).toNat : Int) := by
  rw [BitVec.toNat_shiftLeft, Nat.shiftLeft_eq, ← wrap32]; norm_cast
theorem n_byte (l : List UInt8) (i : Nat) : (((l.getD i 0).toNat : Nat) : Int) = ((by8 l i).toNat : Int) := by
  unfold by8
  rw [BitVec.toNat_ofNat, Nat.mod_eq_of_lt (by have := (l.getD i 0).toNat_lt; omega)]
theorem m_add (x y : W32) : ((x.toNat : Int) + (y.toNat : Int)) % 4294967296 = ((x + y).toNat : Int) := n_add x y
theorem m_shl (x : W32) (n : Nat) : ((x.toNat : Int) * 2 ^ n) % 4294967296 = ((x <<< n).toNat : Int) := n_shl x n
end Go.Proofs.YtfihbohdhcidbaaDoor.Sha
