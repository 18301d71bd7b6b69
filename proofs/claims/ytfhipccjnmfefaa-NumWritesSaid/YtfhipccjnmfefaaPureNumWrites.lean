/- NumWrites, the plain part: for every int n, every int bytes and every text s (of at most 140737488351232 bytes) the program's Fixed, Short and Text tell the very bytes and codes that the document's reference tells, and the chapter's example holds. -/
import Derived.Test.YtfhipccjnmfefaaQNumWritesx2
namespace Go.Proofs.Ytfhipccjnmfefaa.Pure
open Go.RowKit Go.Proofs.Ytfhipccjnmfefaa.QNumWrites Go.Proofs.YtfhipccjnmfefaaW.PrintWords Go.Proofs.YtfhipccjnmfefaaW.PrintLast Go.Proofs.YtfhipccjnmfefaaW.PrintMore

theorem or_top_nat : ∀ m : Fin 256, (m.val ||| 128) = 128 + m.val % 128 := by decide +kernel

theorem or_top (x : Int) (h : 0 ≤ x) : Go.bits .or .u8 (x % 256) 128 = 128 + x % 128 := by
  obtain ⟨n, rfl⟩ := Int.eq_ofNat_of_zero_le h
  have e : ((n : Int) % 256) = ((n % 256 : Nat) : Int) := by omega
  rw [e, show (128 : Int) = ((128 : Nat) : Int) from rfl, (bits_nat .u8 8 (by decide) wraps_u8 (n % 256) 128 (by omega) (by decide)).2]
  have := or_top_nat ⟨n % 256, by omega⟩
  simp only at this
  rw [this]; omega

theorem short_small : ∀ (k : Nat) (x : Int) (l : List Int), 0 ≤ x → x < 9223372036854775808 → num_Short.l0 k x l = (garretref01_Small.l0 k x l).map (fun r => (r, 0)) := by
  intro k
  induction k with
  | zero => intro x l _ _; rfl
  | succ k ih =>
    intro x l h0 h1
    simp only [num_Short.l0, garretref01_Small.l0]
    by_cases hx : x ≥ 128
    · rw [if_pos hx, if_pos hx]
      by_cases hl : l.length < 140737488355328
      · rw [if_pos hl, if_pos hl]
        have e1 : wrap64 (Int.tdiv x 128) = x / 128 := by rw [Int.tdiv_eq_ediv_of_nonneg h0]; unfold wrap64; omega
        have e2 : wrap64 (128 + Int.tmod x 128) % 256 = Go.bits .or .u8 (x % 256) 128 := by
          rw [or_top x h0, Int.tmod_eq_emod_of_nonneg h0]; unfold wrap64; omega
        rw [e1, e2]
        exact ih _ _ (by omega) (by omega)
      · rw [if_neg hl, if_neg hl]; rfl
    · rw [if_neg hx, if_neg hx]
      by_cases hl : l.length < 140737488355328
      · rw [if_pos hl, if_pos hl]; rfl
      · rw [if_neg hl, if_neg hl]; rfl

/-- A short number's bytes: told within d + 1 rounds, at most so many bytes more. -/
theorem small_some : ∀ (d : Nat) (k : Nat) (x : Int) (l : List Int), 0 ≤ x → x < 9223372036854775808 → x < 128 ^ (d + 1) → d < k → l.length + d < 140737488355000 →
    ∃ r, garretref01_Small.l0 k x l = some r ∧ r.size ≤ l.length + d + 1 := by
  intro d
  induction d with
  | zero =>
    intro k x l h0 _ h1 hk hl
    obtain ⟨k, rfl⟩ : ∃ m, k = m + 1 := ⟨k - 1, by omega⟩
    refine ⟨_, by simp only [garretref01_Small.l0]; rw [if_neg (by omega), if_pos (by omega)], ?_⟩
    simp [strOfNums, ByteArray.size]
  | succ d ih =>
    intro k x l h0 h2 h1 hk hl
    obtain ⟨k, rfl⟩ : ∃ m, k = m + 1 := ⟨k - 1, by omega⟩
    simp only [garretref01_Small.l0]
    by_cases hx : x ≥ 128
    · rw [if_pos hx, if_pos (by omega)]
      have e1 : wrap64 (Int.tdiv x 128) = x / 128 := by rw [Int.tdiv_eq_ediv_of_nonneg h0]; unfold wrap64; omega
      have hp : (128 : Int) ^ (d + 1 + 1) = 128 ^ (d + 1) * 128 := Int.pow_succ ..
      rw [e1]
      obtain ⟨r, hr, hs⟩ := ih k (x / 128) (l ++ [wrap64 (128 + Int.tmod x 128) % 256]) (by omega) (by omega) (by rw [hp] at h1; generalize (128 : Int) ^ (d + 1) = p at *; omega) (by omega) (by simp; omega)
      exact ⟨r, hr, by simp at hs; omega⟩
    · rw [if_neg hx, if_pos (by omega)]
      refine ⟨_, rfl, ?_⟩
      simp [strOfNums, ByteArray.size]

theorem small_told (x : Int) (h0 : 0 ≤ x) (h1 : x < 9223372036854775808) : ∃ r, garretref01_Small.f 20 x = some r ∧ num_Short.f 20 x = some (r, 0) ∧ r.size ≤ 10 := by
  obtain ⟨r, hr, hs⟩ := small_some 9 20 x [] h0 h1 (by omega) (by omega) (by simp)
  refine ⟨r, hr, ?_, by simpa using hs⟩
  unfold num_Short.f
  rw [if_neg (by omega), short_small 20 x [] h0 h1, hr]; rfl


theorem fixed1 (n : Int) : num_Fixed.j0 20 n 1 false = if shr .i64 n 8 > 0 then some ((⟨#[]⟩ : ByteArray), 1) else some (strOfNums [shr .i64 n 0 % 256], 0) := by kernel_rfl
theorem refFixed1 (n : Int) : garretref01_Fixed.j0 20 n 1 false = some (strOfNums [(n) % 256], 0) := by kernel_rfl
theorem fixed2 (n : Int) : num_Fixed.j0 20 n 2 false = if shr .i64 n 16 > 0 then some ((⟨#[]⟩ : ByteArray), 1) else some (strOfNums [shr .i64 n 8 % 256, shr .i64 n 0 % 256], 0) := by kernel_rfl
theorem refFixed2 (n : Int) : garretref01_Fixed.j0 20 n 2 false = some (strOfNums [(wrap64 (Int.tdiv (n) 256)) % 256, (n) % 256], 0) := by kernel_rfl
theorem fixed3 (n : Int) : num_Fixed.j0 20 n 3 false = if shr .i64 n 24 > 0 then some ((⟨#[]⟩ : ByteArray), 1) else some (strOfNums [shr .i64 n 16 % 256, shr .i64 n 8 % 256, shr .i64 n 0 % 256], 0) := by kernel_rfl
theorem refFixed3 (n : Int) : garretref01_Fixed.j0 20 n 3 false = some (strOfNums [(wrap64 (Int.tdiv (wrap64 (Int.tdiv (n) 256)) 256)) % 256, (wrap64 (Int.tdiv (n) 256)) % 256, (n) % 256], 0) := by kernel_rfl
theorem fixed4 (n : Int) : num_Fixed.j0 20 n 4 false = if shr .i64 n 32 > 0 then some ((⟨#[]⟩ : ByteArray), 1) else some (strOfNums [shr .i64 n 24 % 256, shr .i64 n 16 % 256, shr .i64 n 8 % 256, shr .i64 n 0 % 256], 0) := by kernel_rfl
theorem refFixed4 (n : Int) : garretref01_Fixed.j0 20 n 4 false = some (strOfNums [(wrap64 (Int.tdiv (wrap64 (Int.tdiv (wrap64 (Int.tdiv (n) 256)) 256)) 256)) % 256, (wrap64 (Int.tdiv (wrap64 (Int.tdiv (n) 256)) 256)) % 256, (wrap64 (Int.tdiv (n) 256)) % 256, (n) % 256], 0) := by kernel_rfl
theorem fixed5 (n : Int) : num_Fixed.j0 20 n 5 false = if shr .i64 n 40 > 0 then some ((⟨#[]⟩ : ByteArray), 1) else some (strOfNums [shr .i64 n 32 % 256, shr .i64 n 24 % 256, shr .i64 n 16 % 256, shr .i64 n 8 % 256, shr .i64 n 0 % 256], 0) := by kernel_rfl
theorem refFixed5 (n : Int) : garretref01_Fixed.j0 20 n 5 false = some (strOfNums [(wrap64 (Int.tdiv (wrap64 (Int.tdiv (wrap64 (Int.tdiv (wrap64 (Int.tdiv (n) 256)) 256)) 256)) 256)) % 256, (wrap64 (Int.tdiv (wrap64 (Int.tdiv (wrap64 (Int.tdiv (n) 256)) 256)) 256)) % 256, (wrap64 (Int.tdiv (wrap64 (Int.tdiv (n) 256)) 256)) % 256, (wrap64 (Int.tdiv (n) 256)) % 256, (n) % 256], 0) := by kernel_rfl
theorem fixed6 (n : Int) : num_Fixed.j0 20 n 6 false = if shr .i64 n 48 > 0 then some ((⟨#[]⟩ : ByteArray), 1) else some (strOfNums [shr .i64 n 40 % 256, shr .i64 n 32 % 256, shr .i64 n 24 % 256, shr .i64 n 16 % 256, shr .i64 n 8 % 256, shr .i64 n 0 % 256], 0) := by kernel_rfl
theorem refFixed6 (n : Int) : garretref01_Fixed.j0 20 n 6 false = some (strOfNums [(wrap64 (Int.tdiv (wrap64 (Int.tdiv (wrap64 (Int.tdiv (wrap64 (Int.tdiv (wrap64 (Int.tdiv (n) 256)) 256)) 256)) 256)) 256)) % 256, (wrap64 (Int.tdiv (wrap64 (Int.tdiv (wrap64 (Int.tdiv (wrap64 (Int.tdiv (n) 256)) 256)) 256)) 256)) % 256, (wrap64 (Int.tdiv (wrap64 (Int.tdiv (wrap64 (Int.tdiv (n) 256)) 256)) 256)) % 256, (wrap64 (Int.tdiv (wrap64 (Int.tdiv (n) 256)) 256)) % 256, (wrap64 (Int.tdiv (n) 256)) % 256, (n) % 256], 0) := by kernel_rfl
theorem fixed7 (n : Int) : num_Fixed.j0 20 n 7 false = if shr .i64 n 56 > 0 then some ((⟨#[]⟩ : ByteArray), 1) else some (strOfNums [shr .i64 n 48 % 256, shr .i64 n 40 % 256, shr .i64 n 32 % 256, shr .i64 n 24 % 256, shr .i64 n 16 % 256, shr .i64 n 8 % 256, shr .i64 n 0 % 256], 0) := by kernel_rfl
theorem refFixed7 (n : Int) : garretref01_Fixed.j0 20 n 7 false = some (strOfNums [(wrap64 (Int.tdiv (wrap64 (Int.tdiv (wrap64 (Int.tdiv (wrap64 (Int.tdiv (wrap64 (Int.tdiv (wrap64 (Int.tdiv (n) 256)) 256)) 256)) 256)) 256)) 256)) % 256, (wrap64 (Int.tdiv (wrap64 (Int.tdiv (wrap64 (Int.tdiv (wrap64 (Int.tdiv (wrap64 (Int.tdiv (n) 256)) 256)) 256)) 256)) 256)) % 256, (wrap64 (Int.tdiv (wrap64 (Int.tdiv (wrap64 (Int.tdiv (wrap64 (Int.tdiv (n) 256)) 256)) 256)) 256)) % 256, (wrap64 (Int.tdiv (wrap64 (Int.tdiv (wrap64 (Int.tdiv (n) 256)) 256)) 256)) % 256, (wrap64 (Int.tdiv (wrap64 (Int.tdiv (n) 256)) 256)) % 256, (wrap64 (Int.tdiv (n) 256)) % 256, (n) % 256], 0) := by kernel_rfl
theorem fixed8 (n : Int) : num_Fixed.j0 20 n 8 false = some (strOfNums [shr .i64 n 56 % 256, shr .i64 n 48 % 256, shr .i64 n 40 % 256, shr .i64 n 32 % 256, shr .i64 n 24 % 256, shr .i64 n 16 % 256, shr .i64 n 8 % 256, shr .i64 n 0 % 256], 0) := by kernel_rfl
theorem refFixed8 (n : Int) : garretref01_Fixed.j0 20 n 8 false = some (strOfNums [(wrap64 (Int.tdiv (wrap64 (Int.tdiv (wrap64 (Int.tdiv (wrap64 (Int.tdiv (wrap64 (Int.tdiv (wrap64 (Int.tdiv (wrap64 (Int.tdiv (n) 256)) 256)) 256)) 256)) 256)) 256)) 256)) % 256, (wrap64 (Int.tdiv (wrap64 (Int.tdiv (wrap64 (Int.tdiv (wrap64 (Int.tdiv (wrap64 (Int.tdiv (wrap64 (Int.tdiv (n) 256)) 256)) 256)) 256)) 256)) 256)) % 256, (wrap64 (Int.tdiv (wrap64 (Int.tdiv (wrap64 (Int.tdiv (wrap64 (Int.tdiv (wrap64 (Int.tdiv (n) 256)) 256)) 256)) 256)) 256)) % 256, (wrap64 (Int.tdiv (wrap64 (Int.tdiv (wrap64 (Int.tdiv (wrap64 (Int.tdiv (n) 256)) 256)) 256)) 256)) % 256, (wrap64 (Int.tdiv (wrap64 (Int.tdiv (wrap64 (Int.tdiv (n) 256)) 256)) 256)) % 256, (wrap64 (Int.tdiv (wrap64 (Int.tdiv (n) 256)) 256)) % 256, (wrap64 (Int.tdiv (n) 256)) % 256, (n) % 256], 0) := by kernel_rfl

theorem shr_pow (n : Int) (i : Nat) (h : i ≤ 64) : shr .i64 n (i : Int) = n / 2 ^ i := by
  unfold shr; rw [show min ((i : Int)).toNat IntKind.i64.bits = i by simp [IntKind.bits]; omega]

theorem step256 (x : Int) (h : 0 ≤ x) (h1 : x < 9223372036854775808) : wrap64 (Int.tdiv x 256) = x / 256 := by
  rw [Int.tdiv_eq_ediv_of_nonneg h]; unfold wrap64; omega

theorem bytes_eq {a b : List Int} (h : a = b) : strOfNums a = strOfNums b := by rw [h]

theorem fixed_same1 (n : Int) (h0 : 0 ≤ n) (h1 : n < 9223372036854775808) : ∃ r e, num_Fixed.f 20 n 1 = some (r, e) ∧ garretref01_Fixed.f 20 n 1 = some (r, e) := by
  have hn : decide (n < 0) = false := decide_eq_false (by omega)
  have e1 := fixed1 n
  have e2 := refFixed1 n
  have s0 : shr .i64 n 0 = n := by rw [show (0 : Int) = ((0 : Nat) : Int) from rfl, shr_pow n 0 (by decide)]; simp
  have s8 : shr .i64 n 8 = n / 256 := shr_pow n 8 (by decide)
  have f1 : num_Fixed.f 20 n 1 = num_Fixed.j0 20 n 1 false := by
    unfold num_Fixed.f; rw [if_neg (by omega), if_neg (by omega), hn]

  have f2 : garretref01_Fixed.f 20 n 1 = garretref01_Fixed.j0 20 n 1 (n / 256 != 0) := by
    unfold garretref01_Fixed.f; rw [if_neg (by omega), if_neg (by omega), if_neg (by omega), if_pos (by omega), if_pos (by simp [wrap64]), show wrap64 (8 * 1) = 8 from by simp [wrap64], s8]
  rw [f1, f2, e1, s8]
  by_cases h : n / 256 > 0
  · rw [if_pos h, show ((n / 256) != 0) = true from by rw [bne_iff_ne]; omega]
    exact ⟨_, _, rfl, rfl⟩
  · rw [if_neg h, show ((n / 256) != 0) = false from by rw [bne_eq_false_iff_eq]; omega, e2, s0]
    exact ⟨_, _, rfl, rfl⟩
theorem fixed_same2 (n : Int) (h0 : 0 ≤ n) (h1 : n < 9223372036854775808) : ∃ r e, num_Fixed.f 20 n 2 = some (r, e) ∧ garretref01_Fixed.f 20 n 2 = some (r, e) := by
  have hn : decide (n < 0) = false := decide_eq_false (by omega)
  have e1 := fixed2 n
  have e2 := refFixed2 n
  have s0 : shr .i64 n 0 = n := by rw [show (0 : Int) = ((0 : Nat) : Int) from rfl, shr_pow n 0 (by decide)]; simp
  have s8 : shr .i64 n 8 = n / 256 := shr_pow n 8 (by decide)
  have s16 : shr .i64 n 16 = n / 65536 := shr_pow n 16 (by decide)
  have f1 : num_Fixed.f 20 n 2 = num_Fixed.j0 20 n 2 false := by
    unfold num_Fixed.f; rw [if_neg (by omega), if_neg (by omega), hn]
  rw [show wrap64 (Int.tdiv (n) 256) = n / 256 from by rw [step256 _ (by omega) (by omega)]] at e2
  have f2 : garretref01_Fixed.f 20 n 2 = garretref01_Fixed.j0 20 n 2 (n / 65536 != 0) := by
    unfold garretref01_Fixed.f; rw [if_neg (by omega), if_neg (by omega), if_neg (by omega), if_pos (by omega), if_pos (by simp [wrap64]), show wrap64 (8 * 2) = 16 from by simp [wrap64], s16]
  rw [f1, f2, e1, s16]
  by_cases h : n / 65536 > 0
  · rw [if_pos h, show ((n / 65536) != 0) = true from by rw [bne_iff_ne]; omega]
    exact ⟨_, _, rfl, rfl⟩
  · rw [if_neg h, show ((n / 65536) != 0) = false from by rw [bne_eq_false_iff_eq]; omega, e2, s8, s0]
    exact ⟨_, _, rfl, rfl⟩
theorem fixed_same3 (n : Int) (h0 : 0 ≤ n) (h1 : n < 9223372036854775808) : ∃ r e, num_Fixed.f 20 n 3 = some (r, e) ∧ garretref01_Fixed.f 20 n 3 = some (r, e) := by
  have hn : decide (n < 0) = false := decide_eq_false (by omega)
  have e1 := fixed3 n
  have e2 := refFixed3 n
  have s0 : shr .i64 n 0 = n := by rw [show (0 : Int) = ((0 : Nat) : Int) from rfl, shr_pow n 0 (by decide)]; simp
  have s8 : shr .i64 n 8 = n / 256 := shr_pow n 8 (by decide)
  have s16 : shr .i64 n 16 = n / 65536 := shr_pow n 16 (by decide)
  have s24 : shr .i64 n 24 = n / 16777216 := shr_pow n 24 (by decide)
  have f1 : num_Fixed.f 20 n 3 = num_Fixed.j0 20 n 3 false := by
    unfold num_Fixed.f; rw [if_neg (by omega), if_neg (by omega), hn]
  rw [show wrap64 (Int.tdiv (n) 256) = n / 256 from by rw [step256 _ (by omega) (by omega)]] at e2
  rw [show wrap64 (Int.tdiv (n / 256) 256) = n / 65536 from by rw [step256 _ (by omega) (by omega)]; omega] at e2
  have f2 : garretref01_Fixed.f 20 n 3 = garretref01_Fixed.j0 20 n 3 (n / 16777216 != 0) := by
    unfold garretref01_Fixed.f; rw [if_neg (by omega), if_neg (by omega), if_neg (by omega), if_pos (by omega), if_pos (by simp [wrap64]), show wrap64 (8 * 3) = 24 from by simp [wrap64], s24]
  rw [f1, f2, e1, s24]
  by_cases h : n / 16777216 > 0
  · rw [if_pos h, show ((n / 16777216) != 0) = true from by rw [bne_iff_ne]; omega]
    exact ⟨_, _, rfl, rfl⟩
  · rw [if_neg h, show ((n / 16777216) != 0) = false from by rw [bne_eq_false_iff_eq]; omega, e2, s16, s8, s0]
    exact ⟨_, _, rfl, rfl⟩
theorem fixed_same4 (n : Int) (h0 : 0 ≤ n) (h1 : n < 9223372036854775808) : ∃ r e, num_Fixed.f 20 n 4 = some (r, e) ∧ garretref01_Fixed.f 20 n 4 = some (r, e) := by
  have hn : decide (n < 0) = false := decide_eq_false (by omega)
  have e1 := fixed4 n
  have e2 := refFixed4 n
  have s0 : shr .i64 n 0 = n := by rw [show (0 : Int) = ((0 : Nat) : Int) from rfl, shr_pow n 0 (by decide)]; simp
  have s8 : shr .i64 n 8 = n / 256 := shr_pow n 8 (by decide)
  have s16 : shr .i64 n 16 = n / 65536 := shr_pow n 16 (by decide)
  have s24 : shr .i64 n 24 = n / 16777216 := shr_pow n 24 (by decide)
  have s32 : shr .i64 n 32 = n / 4294967296 := shr_pow n 32 (by decide)
  have f1 : num_Fixed.f 20 n 4 = num_Fixed.j0 20 n 4 false := by
    unfold num_Fixed.f; rw [if_neg (by omega), if_neg (by omega), hn]
  rw [show wrap64 (Int.tdiv (n) 256) = n / 256 from by rw [step256 _ (by omega) (by omega)]] at e2
  rw [show wrap64 (Int.tdiv (n / 256) 256) = n / 65536 from by rw [step256 _ (by omega) (by omega)]; omega] at e2
  rw [show wrap64 (Int.tdiv (n / 65536) 256) = n / 16777216 from by rw [step256 _ (by omega) (by omega)]; omega] at e2
  have f2 : garretref01_Fixed.f 20 n 4 = garretref01_Fixed.j0 20 n 4 (n / 4294967296 != 0) := by
    unfold garretref01_Fixed.f; rw [if_neg (by omega), if_neg (by omega), if_neg (by omega), if_pos (by omega), if_pos (by simp [wrap64]), show wrap64 (8 * 4) = 32 from by simp [wrap64], s32]
  rw [f1, f2, e1, s32]
  by_cases h : n / 4294967296 > 0
  · rw [if_pos h, show ((n / 4294967296) != 0) = true from by rw [bne_iff_ne]; omega]
    exact ⟨_, _, rfl, rfl⟩
  · rw [if_neg h, show ((n / 4294967296) != 0) = false from by rw [bne_eq_false_iff_eq]; omega, e2, s24, s16, s8, s0]
    exact ⟨_, _, rfl, rfl⟩
theorem fixed_same5 (n : Int) (h0 : 0 ≤ n) (h1 : n < 9223372036854775808) : ∃ r e, num_Fixed.f 20 n 5 = some (r, e) ∧ garretref01_Fixed.f 20 n 5 = some (r, e) := by
  have hn : decide (n < 0) = false := decide_eq_false (by omega)
  have e1 := fixed5 n
  have e2 := refFixed5 n
  have s0 : shr .i64 n 0 = n := by rw [show (0 : Int) = ((0 : Nat) : Int) from rfl, shr_pow n 0 (by decide)]; simp
  have s8 : shr .i64 n 8 = n / 256 := shr_pow n 8 (by decide)
  have s16 : shr .i64 n 16 = n / 65536 := shr_pow n 16 (by decide)
  have s24 : shr .i64 n 24 = n / 16777216 := shr_pow n 24 (by decide)
  have s32 : shr .i64 n 32 = n / 4294967296 := shr_pow n 32 (by decide)
  have s40 : shr .i64 n 40 = n / 1099511627776 := shr_pow n 40 (by decide)
  have f1 : num_Fixed.f 20 n 5 = num_Fixed.j0 20 n 5 false := by
    unfold num_Fixed.f; rw [if_neg (by omega), if_neg (by omega), hn]
  rw [show wrap64 (Int.tdiv (n) 256) = n / 256 from by rw [step256 _ (by omega) (by omega)]] at e2
  rw [show wrap64 (Int.tdiv (n / 256) 256) = n / 65536 from by rw [step256 _ (by omega) (by omega)]; omega] at e2
  rw [show wrap64 (Int.tdiv (n / 65536) 256) = n / 16777216 from by rw [step256 _ (by omega) (by omega)]; omega] at e2
  rw [show wrap64 (Int.tdiv (n / 16777216) 256) = n / 4294967296 from by rw [step256 _ (by omega) (by omega)]; omega] at e2
  have f2 : garretref01_Fixed.f 20 n 5 = garretref01_Fixed.j0 20 n 5 (n / 1099511627776 != 0) := by
    unfold garretref01_Fixed.f; rw [if_neg (by omega), if_neg (by omega), if_neg (by omega), if_pos (by omega), if_pos (by simp [wrap64]), show wrap64 (8 * 5) = 40 from by simp [wrap64], s40]
  rw [f1, f2, e1, s40]
  by_cases h : n / 1099511627776 > 0
  · rw [if_pos h, show ((n / 1099511627776) != 0) = true from by rw [bne_iff_ne]; omega]
    exact ⟨_, _, rfl, rfl⟩
  · rw [if_neg h, show ((n / 1099511627776) != 0) = false from by rw [bne_eq_false_iff_eq]; omega, e2, s32, s24, s16, s8, s0]
    exact ⟨_, _, rfl, rfl⟩
theorem fixed_same6 (n : Int) (h0 : 0 ≤ n) (h1 : n < 9223372036854775808) : ∃ r e, num_Fixed.f 20 n 6 = some (r, e) ∧ garretref01_Fixed.f 20 n 6 = some (r, e) := by
  have hn : decide (n < 0) = false := decide_eq_false (by omega)
  have e1 := fixed6 n
  have e2 := refFixed6 n
  have s0 : shr .i64 n 0 = n := by rw [show (0 : Int) = ((0 : Nat) : Int) from rfl, shr_pow n 0 (by decide)]; simp
  have s8 : shr .i64 n 8 = n / 256 := shr_pow n 8 (by decide)
  have s16 : shr .i64 n 16 = n / 65536 := shr_pow n 16 (by decide)
  have s24 : shr .i64 n 24 = n / 16777216 := shr_pow n 24 (by decide)
  have s32 : shr .i64 n 32 = n / 4294967296 := shr_pow n 32 (by decide)
  have s40 : shr .i64 n 40 = n / 1099511627776 := shr_pow n 40 (by decide)
  have s48 : shr .i64 n 48 = n / 281474976710656 := shr_pow n 48 (by decide)
  have f1 : num_Fixed.f 20 n 6 = num_Fixed.j0 20 n 6 false := by
    unfold num_Fixed.f; rw [if_neg (by omega), if_neg (by omega), hn]
  rw [show wrap64 (Int.tdiv (n) 256) = n / 256 from by rw [step256 _ (by omega) (by omega)]] at e2
  rw [show wrap64 (Int.tdiv (n / 256) 256) = n / 65536 from by rw [step256 _ (by omega) (by omega)]; omega] at e2
  rw [show wrap64 (Int.tdiv (n / 65536) 256) = n / 16777216 from by rw [step256 _ (by omega) (by omega)]; omega] at e2
  rw [show wrap64 (Int.tdiv (n / 16777216) 256) = n / 4294967296 from by rw [step256 _ (by omega) (by omega)]; omega] at e2
  rw [show wrap64 (Int.tdiv (n / 4294967296) 256) = n / 1099511627776 from by rw [step256 _ (by omega) (by omega)]; omega] at e2
  have f2 : garretref01_Fixed.f 20 n 6 = garretref01_Fixed.j0 20 n 6 (n / 281474976710656 != 0) := by
    unfold garretref01_Fixed.f; rw [if_neg (by omega), if_neg (by omega), if_neg (by omega), if_pos (by omega), if_pos (by simp [wrap64]), show wrap64 (8 * 6) = 48 from by simp [wrap64], s48]
  rw [f1, f2, e1, s48]
  by_cases h : n / 281474976710656 > 0
  · rw [if_pos h, show ((n / 281474976710656) != 0) = true from by rw [bne_iff_ne]; omega]
    exact ⟨_, _, rfl, rfl⟩
  · rw [if_neg h, show ((n / 281474976710656) != 0) = false from by rw [bne_eq_false_iff_eq]; omega, e2, s40, s32, s24, s16, s8, s0]
    exact ⟨_, _, rfl, rfl⟩
theorem fixed_same7 (n : Int) (h0 : 0 ≤ n) (h1 : n < 9223372036854775808) : ∃ r e, num_Fixed.f 20 n 7 = some (r, e) ∧ garretref01_Fixed.f 20 n 7 = some (r, e) := by
  have hn : decide (n < 0) = false := decide_eq_false (by omega)
  have e1 := fixed7 n
  have e2 := refFixed7 n
  have s0 : shr .i64 n 0 = n := by rw [show (0 : Int) = ((0 : Nat) : Int) from rfl, shr_pow n 0 (by decide)]; simp
  have s8 : shr .i64 n 8 = n / 256 := shr_pow n 8 (by decide)
  have s16 : shr .i64 n 16 = n / 65536 := shr_pow n 16 (by decide)
  have s24 : shr .i64 n 24 = n / 16777216 := shr_pow n 24 (by decide)
  have s32 : shr .i64 n 32 = n / 4294967296 := shr_pow n 32 (by decide)
  have s40 : shr .i64 n 40 = n / 1099511627776 := shr_pow n 40 (by decide)
  have s48 : shr .i64 n 48 = n / 281474976710656 := shr_pow n 48 (by decide)
  have s56 : shr .i64 n 56 = n / 72057594037927936 := shr_pow n 56 (by decide)
  have f1 : num_Fixed.f 20 n 7 = num_Fixed.j0 20 n 7 false := by
    unfold num_Fixed.f; rw [if_neg (by omega), if_neg (by omega), hn]
  rw [show wrap64 (Int.tdiv (n) 256) = n / 256 from by rw [step256 _ (by omega) (by omega)]] at e2
  rw [show wrap64 (Int.tdiv (n / 256) 256) = n / 65536 from by rw [step256 _ (by omega) (by omega)]; omega] at e2
  rw [show wrap64 (Int.tdiv (n / 65536) 256) = n / 16777216 from by rw [step256 _ (by omega) (by omega)]; omega] at e2
  rw [show wrap64 (Int.tdiv (n / 16777216) 256) = n / 4294967296 from by rw [step256 _ (by omega) (by omega)]; omega] at e2
  rw [show wrap64 (Int.tdiv (n / 4294967296) 256) = n / 1099511627776 from by rw [step256 _ (by omega) (by omega)]; omega] at e2
  rw [show wrap64 (Int.tdiv (n / 1099511627776) 256) = n / 281474976710656 from by rw [step256 _ (by omega) (by omega)]; omega] at e2
  have f2 : garretref01_Fixed.f 20 n 7 = garretref01_Fixed.j0 20 n 7 (n / 72057594037927936 != 0) := by
    unfold garretref01_Fixed.f; rw [if_neg (by omega), if_neg (by omega), if_neg (by omega), if_pos (by omega), if_pos (by simp [wrap64]), show wrap64 (8 * 7) = 56 from by simp [wrap64], s56]
  rw [f1, f2, e1, s56]
  by_cases h : n / 72057594037927936 > 0
  · rw [if_pos h, show ((n / 72057594037927936) != 0) = true from by rw [bne_iff_ne]; omega]
    exact ⟨_, _, rfl, rfl⟩
  · rw [if_neg h, show ((n / 72057594037927936) != 0) = false from by rw [bne_eq_false_iff_eq]; omega, e2, s48, s40, s32, s24, s16, s8, s0]
    exact ⟨_, _, rfl, rfl⟩
theorem fixed_same8 (n : Int) (h0 : 0 ≤ n) (h1 : n < 9223372036854775808) : ∃ r e, num_Fixed.f 20 n 8 = some (r, e) ∧ garretref01_Fixed.f 20 n 8 = some (r, e) := by
  have hn : decide (n < 0) = false := decide_eq_false (by omega)
  have e1 := fixed8 n
  have e2 := refFixed8 n
  have s0 : shr .i64 n 0 = n := by rw [show (0 : Int) = ((0 : Nat) : Int) from rfl, shr_pow n 0 (by decide)]; simp
  have s8 : shr .i64 n 8 = n / 256 := shr_pow n 8 (by decide)
  have s16 : shr .i64 n 16 = n / 65536 := shr_pow n 16 (by decide)
  have s24 : shr .i64 n 24 = n / 16777216 := shr_pow n 24 (by decide)
  have s32 : shr .i64 n 32 = n / 4294967296 := shr_pow n 32 (by decide)
  have s40 : shr .i64 n 40 = n / 1099511627776 := shr_pow n 40 (by decide)
  have s48 : shr .i64 n 48 = n / 281474976710656 := shr_pow n 48 (by decide)
  have s56 : shr .i64 n 56 = n / 72057594037927936 := shr_pow n 56 (by decide)
  have f1 : num_Fixed.f 20 n 8 = num_Fixed.j0 20 n 8 false := by
    unfold num_Fixed.f; rw [if_neg (by omega), if_neg (by omega), hn]
  rw [show wrap64 (Int.tdiv (n) 256) = n / 256 from by rw [step256 _ (by omega) (by omega)]] at e2
  rw [show wrap64 (Int.tdiv (n / 256) 256) = n / 65536 from by rw [step256 _ (by omega) (by omega)]; omega] at e2
  rw [show wrap64 (Int.tdiv (n / 65536) 256) = n / 16777216 from by rw [step256 _ (by omega) (by omega)]; omega] at e2
  rw [show wrap64 (Int.tdiv (n / 16777216) 256) = n / 4294967296 from by rw [step256 _ (by omega) (by omega)]; omega] at e2
  rw [show wrap64 (Int.tdiv (n / 4294967296) 256) = n / 1099511627776 from by rw [step256 _ (by omega) (by omega)]; omega] at e2
  rw [show wrap64 (Int.tdiv (n / 1099511627776) 256) = n / 281474976710656 from by rw [step256 _ (by omega) (by omega)]; omega] at e2
  rw [show wrap64 (Int.tdiv (n / 281474976710656) 256) = n / 72057594037927936 from by rw [step256 _ (by omega) (by omega)]; omega] at e2
  have f2 : garretref01_Fixed.f 20 n 8 = garretref01_Fixed.j0 20 n 8 false := by
    unfold garretref01_Fixed.f; rw [if_neg (by omega), if_neg (by omega), if_neg (by omega), if_neg (by omega)]
  rw [f1, f2, e1, e2, s56, s48, s40, s32, s24, s16, s8, s0]
  exact ⟨_, _, rfl, rfl⟩

theorem fixed_same (n b : Int) (h0 : 0 ≤ n) (h1 : n < 9223372036854775808) (hb : 1 ≤ b) (hb8 : b ≤ 8) : ∃ r e, num_Fixed.f 20 n b = some (r, e) ∧ garretref01_Fixed.f 20 n b = some (r, e) := by
  have h : b = 1 ∨ b = 2 ∨ b = 3 ∨ b = 4 ∨ b = 5 ∨ b = 6 ∨ b = 7 ∨ b = 8 := by omega
  rcases h with rfl | rfl | rfl | rfl | rfl | rfl | rfl | rfl
  · exact fixed_same1 n h0 h1
  · exact fixed_same2 n h0 h1
  · exact fixed_same3 n h0 h1
  · exact fixed_same4 n h0 h1
  · exact fixed_same5 n h0 h1
  · exact fixed_same6 n h0 h1
  · exact fixed_same7 n h0 h1
  · exact fixed_same8 n h0 h1

theorem NumWrites : garretlaw01_NumWrites.Pure := by
  intro n b s hn hb hs
  have hn' : -9223372036854775808 ≤ n ∧ n < 9223372036854775808 := by simp [Lit.wf, IntKind.min, IntKind.max, IntKind.bits, IntKind.signed] at hn; omega
  obtain ⟨t, ht, ht', hts⟩ := small_told s.size (by omega) (by omega)
  refine ⟨20, ?_⟩
  have hw : garretlaw01_works.f 20 = some true := by decide +kernel
  have e5 : num_Text.f 20 s = some (t ++ s) := by
    unfold num_Text.f; rw [ht']; simp only [Option.bind_some]; rw [if_pos (by omega)]
  have e6 : garretref01_Text.f 20 s = some (t ++ s) := by
    unfold garretref01_Text.f; rw [ht]; simp only [Option.bind_some]; rw [if_pos (by omega)]
  obtain ⟨r, e, e1, e2⟩ : ∃ r e, num_Fixed.f 20 n b = some (r, e) ∧ garretref01_Fixed.f 20 n b = some (r, e) := by
    by_cases h1 : b < 1
    · exact ⟨_, _, by unfold num_Fixed.f; rw [if_pos h1]; rfl, by unfold garretref01_Fixed.f; rw [if_pos h1]; rfl⟩
    by_cases h2 : b > 8
    · exact ⟨_, _, by unfold num_Fixed.f; rw [if_neg h1, if_pos h2]; rfl, by unfold garretref01_Fixed.f; rw [if_neg h1, if_pos h2]; rfl⟩
    by_cases h3 : n < 0
    · exact ⟨_, _, by unfold num_Fixed.f; rw [if_neg h1, if_neg h2, decide_eq_true h3]; rfl, by unfold garretref01_Fixed.f; rw [if_neg h1, if_neg h2, if_pos h3]; rfl⟩
    exact fixed_same n b (by omega) (by omega) (by omega) (by omega)
  obtain ⟨r', e', e3, e4⟩ : ∃ r e, num_Short.f 20 n = some (r, e) ∧ garretref01_Short.f 20 n = some (r, e) := by
    by_cases h : n < 0
    · exact ⟨_, _, by unfold num_Short.f; rw [if_pos h], by unfold garretref01_Short.f; rw [if_pos h]⟩
    · obtain ⟨t, ht, ht', _⟩ := small_told n (by omega) (by omega)
      exact ⟨t, 0, ht', by unfold garretref01_Short.f; rw [if_neg h, ht]; rfl⟩
  unfold garretlaw01_NumWrites.f
  rw [e1, e2, e3, e4, e5, e6, hw]
  simp

end Go.Proofs.Ytfhipccjnmfefaa.Pure
