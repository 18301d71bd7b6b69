/- The two readers side by side: whatever they are asked they answer the same, and stand at the same place. Plain facts of the printed functions. -/
import Derived.Test.YtfhipccjnmfefaaZNumNum
namespace Go.Proofs.Ytfhipccjnmfefaa.Same
open Go.RowKit Go.Proofs.Ytfhipccjnmfefaa.QNum Go.Proofs.YtfhipccjnmfefaaW.PrintWords Go.Proofs.YtfhipccjnmfefaaW.PrintLast Go.Proofs.YtfhipccjnmfefaaW.PrintMore
set_option linter.unusedVariables false

/-- The reader (s0, s1) stands where the reference's (t0, t1, t2) does. -/
structure Rel (s0 : ByteArray) (s1 : Int) (t0 : ByteArray) (t1 t2 : Int) : Prop where
  code : s1 = t2
  low : 0 ≤ t1
  high : t1 ≤ t0.size
  small : t0.size ≤ 140737488351232
  rest : bytesOf s0 = (bytesOf t0).drop t1.toNat
theorem Rel.size {s0 : ByteArray} {s1 : Int} {t0 : ByteArray} {t1 t2 : Int} (h : Rel s0 s1 t0 t1 t2) : (s0.size : Int) = t0.size - t1 := by
  have := congrArg List.length h.rest
  rw [bytesOf_size, List.length_drop, bytesOf_size] at this
  have := h.low; have := h.high
  omega
theorem Rel.fail {s0 : ByteArray} {s1 : Int} {t0 : ByteArray} {t1 t2 : Int} (h : Rel s0 s1 t0 t1 t2) (c : Int) : Rel s0 (if s1 = 0 then c else s1) t0 t1 (if t2 = 0 then c else t2) :=
  ⟨by rw [h.code], h.low, h.high, h.small, h.rest⟩
theorem Rel.set {s0 : ByteArray} {s1 : Int} {t0 : ByteArray} {t1 t2 : Int} (h : Rel s0 s1 t0 t1 t2) (c : Int) : Rel s0 c t0 t1 c := ⟨rfl, h.low, h.high, h.small, h.rest⟩
theorem rfail (s0 : ByteArray) (s1 s2 c : Int) : garretref01_Reader_Fail.f s0 s1 s2 c = some (s0, s1, if s2 = 0 then c else s2) := by
  unfold garretref01_Reader_Fail.f; split <;> rfl
theorem rleft {s0 : ByteArray} {s1 : Int} {t0 : ByteArray} {t1 t2 : Int} (h : Rel s0 s1 t0 t1 t2) : garretref01_Reader_Left.f t0 t1 t2 = some ((s0.size : Int), t0, t1, t2) := by
  unfold garretref01_Reader_Left.f
  have hs := h.size; have := h.low; have := h.high; have := h.small
  rw [show wrap64 ((t0.size : Int) - t1) = s0.size by rw [← hs]; unfold wrap64; omega]
theorem nbytes_err (s : ByteArray) (e a : Int) (he : e ≠ 0) : num_Reader_Bytes.f s e a = some ((⟨#[]⟩ : ByteArray), s, e) := by
  unfold num_Reader_Bytes.f
  by_cases h : a < 0
  · rw [if_pos h, bnd (fail_told _ _ _)]; dsimp only; rw [if_neg he, if_neg he]
  · rw [if_neg h, bnd (show num_Reader_Left.f s e = some ((s.size : Int), s, e) from rfl)]
    dsimp only
    by_cases h2 : a > (s.size : Int)
    · rw [if_pos h2, bnd (fail_told _ _ _)]; dsimp only; rw [if_neg he, if_neg he]
    · rw [if_neg h2, if_neg he]
theorem nbytes_neg (s : ByteArray) (a : Int) (h : a < 0) : num_Reader_Bytes.f s 0 a = some ((⟨#[]⟩ : ByteArray), s, 1) := by
  unfold num_Reader_Bytes.f
  rw [if_pos h, bnd (fail_told _ _ _)]; dsimp only; rw [if_pos rfl, if_neg (by decide)]
theorem nbytes_end (s : ByteArray) (a : Int) (h0 : 0 ≤ a) (h : (s.size : Int) < a) : num_Reader_Bytes.f s 0 a = some ((⟨#[]⟩ : ByteArray), s, 10) := by
  unfold num_Reader_Bytes.f
  rw [if_neg (by omega), bnd (show num_Reader_Left.f s 0 = some ((s.size : Int), s, 0) from rfl)]
  dsimp only
  rw [if_pos (by omega), bnd (fail_told _ _ _)]; dsimp only; rw [if_pos rfl, if_neg (by decide)]
theorem nbytes_ok (s : ByteArray) (a : Int) (h0 : 0 ≤ a) (h : a ≤ (s.size : Int)) : num_Reader_Bytes.f s 0 a = some (s.extract 0 a.toNat, s.extract a.toNat s.size, 0) := by
  unfold num_Reader_Bytes.f
  rw [if_neg (by omega), bnd (show num_Reader_Left.f s 0 = some ((s.size : Int), s, 0) from rfl)]
  dsimp only
  rw [if_neg (by omega), if_pos rfl, if_pos (by omega), if_pos (by omega)]
theorem same_bytes {s0 : ByteArray} {s1 : Int} {t0 : ByteArray} {t1 t2 : Int} (h : Rel s0 s1 t0 t1 t2) (a : Int) (ha : a < 9223372036854775808) :
    ∃ r s0' s1' t1' t2', num_Reader_Bytes.f s0 s1 a = some (r, s0', s1') ∧ garretref01_Reader_Bytes.f t0 t1 t2 a = some (r, t0, t1', t2') ∧ Rel s0' s1' t0 t1' t2' ∧ (r.size = 0 ∨ (r.size : Int) = a) := by
  have hs := h.size; have hl := h.low; have hh := h.high; have hm := h.small
  obtain rfl := h.code
  unfold garretref01_Reader_Bytes.f
  by_cases he : s1 = 0
  · subst he
    rw [if_pos rfl]
    by_cases h0 : a < 0
    · rw [if_pos h0]; exact ⟨_, _, _, _, _, nbytes_neg s0 a h0, rfl, h.set 1, .inl rfl⟩
    · rw [if_neg h0, bnd (rleft h)]
      dsimp only
      by_cases h1 : a > (s0.size : Int)
      · rw [if_pos h1]; exact ⟨_, _, _, _, _, nbytes_end s0 a (by omega) h1, rfl, h.set 10, .inl rfl⟩
      · have w1 : wrap64 (t1 + a) = t1 + a := by unfold wrap64; omega
        have w2 : wrap64 (t1 + a - a) = t1 := by rw [show t1 + a - a = t1 by omega]; unfold wrap64; omega
        rw [if_neg h1, w1, w2, if_pos hl, if_pos (by omega), if_pos (by omega)]
        have e1 : t0.extract t1.toNat (t1 + a).toNat = s0.extract 0 a.toNat := by
          apply bytesOf_inj
          rw [bytesOf_extract, bytesOf_extract, h.rest, List.drop_zero]
          congr 1; omega
        rw [e1]
        refine ⟨_, _, _, _, _, nbytes_ok s0 a (by omega) (by omega), rfl, ⟨rfl, by omega, by omega, hm, ?_⟩, .inr ?_⟩
        · rw [bytesOf_extract, h.rest, List.drop_drop, List.take_of_length_le (by rw [List.length_drop, bytesOf_size]; omega)]
          congr 1; omega
        · rw [size_eq, bytesOf_extract, List.length_take, List.length_drop, bytesOf_size]; omega
  · rw [if_neg he]; exact ⟨_, _, _, _, _, nbytes_err s0 s1 a he, rfl, h, .inl rfl⟩
/-! ### fixed numbers -/
def val (l : List Int) : Int := l.foldl (fun n c => n * 256 + c) 0
theorem val_snoc (l : List Int) (c : Int) : val (l ++ [c]) = val l * 256 + c := by simp [val, List.foldl_append]
theorem take_snoc {α : Type} (l : List α) (i : Nat) (h : i < l.length) : l.take (i + 1) = l.take i ++ [l[i]] := List.take_succ_eq_append_getElem h
theorem num_step (acc c : Int) (h0 : 0 ≤ acc) (h1 : acc < 36028797018963968) (hc0 : 0 ≤ c) (hc1 : c < 256) : Go.bits .or .i64 (wrap64 (acc * 256)) (wrap64 c) = acc * 256 + c := by
  have e1 : wrap64 (acc * 256) = acc * 256 := by unfold wrap64; omega
  have e2 : wrap64 c = c := by unfold wrap64; omega
  rw [e1, e2]
  exact bits_join .i64 63 (by decide) (fun n h0 h1 => by rw [i64_w]; unfold wrap64; omega) 8 _ _ (by omega) (by omega) (by omega) hc0 (by omega) (by omega)
theorem pow7 (i : Nat) (h : i ≤ 6) : (256 : Int) ^ i ≤ 281474976710656 := by
  have : i = 0 ∨ i = 1 ∨ i = 2 ∨ i = 3 ∨ i = 4 ∨ i = 5 ∨ i = 6 := by omega
  rcases this with rfl | rfl | rfl | rfl | rfl | rfl | rfl <;> decide
theorem val_take (l : List Int) (h : Bytes8 l) (h7 : l.length ≤ 7) : ∀ i : Nat, i ≤ l.length → num_Reader_Fixed.num (l.take i) = val (l.take i) ∧ 0 ≤ val (l.take i) ∧ val (l.take i) < 256 ^ i := by
  intro i
  induction i with
  | zero => intro _; exact ⟨rfl, Int.le_refl 0, show (0 : Int) < 256 ^ 0 by decide⟩
  | succ i ih =>
    intro hi
    obtain ⟨h1, h2, h3⟩ := ih (by omega)
    obtain ⟨hc0, hc1⟩ := h l[i] (List.getElem_mem (by omega))
    have hp := pow7 i (by omega)
    rw [take_snoc l i (by omega), val_snoc, num_Reader_Fixed.num_snoc, h1, num_step _ _ h2 (by omega) hc0 hc1]
    refine ⟨rfl, by omega, ?_⟩
    rw [Int.pow_succ]; omega
theorem num_val (l : List Int) (h : Bytes8 l) (h7 : l.length ≤ 7) : num_Reader_Fixed.num l = val l := by
  have := (val_take l h h7 l.length (Nat.le_refl _)).1
  rwa [List.take_length] at this
theorem ref_num (s : ByteArray) (h7 : s.size ≤ 7) : ∀ (d k i : Nat), s.size - i = d → d < k → i ≤ s.size → garretref01_Num.l0 k s (val ((bytesOf s).take i)) i = some (val (bytesOf s)) := by
  intro d
  induction d with
  | zero =>
    intro k i hd hk hi
    obtain ⟨k, rfl⟩ : ∃ m, k = m + 1 := ⟨k - 1, by omega⟩
    simp only [garretref01_Num.l0]
    rw [if_neg (by omega), List.take_of_length_le (by rw [bytesOf_size]; omega)]
  | succ d ih =>
    intro k i hd hk hi
    obtain ⟨k, rfl⟩ : ∃ m, k = m + 1 := ⟨k - 1, by omega⟩
    have hlt : i < s.size := by omega
    obtain ⟨_, h2, h3⟩ := val_take (bytesOf s) (bytes8_bytesOf s) (by rw [bytesOf_size]; exact h7) i (by rw [bytesOf_size]; omega)
    have hp := pow7 i (by omega)
    obtain ⟨hb0, hb1⟩ := bytes8_bytesOf s (bt s i) (by rw [bt_eq s i hlt]; exact List.getElem_mem _)
    have hnx := ih k (i + 1) (by omega) (by omega) (by omega)
    rw [take_snoc _ i (by rw [bytesOf_size]; exact hlt), val_snoc, ← bt_eq s i hlt] at hnx
    simp only [garretref01_Num.l0]
    rw [if_pos (by omega), if_pos (by omega)]
    have e1 : wrap64 (bt s (i : Int)) = bt s i := w64 (by omega) (by omega)
    have e2 : wrap64 (val ((bytesOf s).take i) * 256) = val ((bytesOf s).take i) * 256 := w64 (by omega) (by omega)
    have e3 : wrap64 (val ((bytesOf s).take i) * 256 + bt s i) = val ((bytesOf s).take i) * 256 + bt s i := w64 (by omega) (by omega)
    have e4 : wrap64 ((i : Int) + 1) = ((i + 1 : Nat) : Int) := by clear h2 h3 hp hnx e1 e2 e3 hb0 hb1; unfold wrap64; omega
    rw [e1, e2, e3, e4]
    exact hnx
theorem ref_num_told {k : Nat} (hk : 8 ≤ k) (s : ByteArray) (h7 : s.size ≤ 7) : garretref01_Num.f k s = some (val (bytesOf s)) :=
  ref_num s h7 s.size k 0 (Nat.sub_zero _) (by omega) (Nat.zero_le _)
theorem same_fixed {k : Nat} (hk : 9 ≤ k) {s0 : ByteArray} {s1 : Int} {t0 : ByteArray} {t1 t2 : Int} (h : Rel s0 s1 t0 t1 t2) (a : Int) (ha : a < 9223372036854775808) :
    ∃ r s0' s1' t1' t2', num_Reader_Fixed.f s0 s1 a = some (r, s0', s1') ∧ garretref01_Reader_Fixed.f k t0 t1 t2 a = some (r, t0, t1', t2') ∧ Rel s0' s1' t0 t1' t2' := by
  obtain ⟨k, rfl⟩ : ∃ m, k = m + 1 := ⟨k - 1, by omega⟩
  obtain rfl := h.code
  -- what both go on with
  have go : ∀ c : Int, Rel s0 c t0 t1 c → (c ≠ 0 ∨ (1 ≤ a ∧ a ≤ 7)) → ∃ r s0' s1' t1' t2', (num_Reader_Bytes.f s0 c a).bind (fun b => if b.1.size ≤ 9223372036854775807 then some (num_Reader_Fixed.num (bytesOf b.1), b.2.1, b.2.2) else none) = some (r, s0', s1') ∧
      ((garretref01_Reader_Bytes.f t0 t1 c a).bind fun bt241 => ((garretref01_Num.f k bt241.1).bind fun t245 => (some (t245, bt241.2.1, bt241.2.2.1, bt241.2.2.2)))) = some (r, t0, t1', t2') ∧ Rel s0' s1' t0 t1' t2' := by
    intro c hc hca
    obtain ⟨r, s0', s1', t1', t2', h1, h2, h3, h4⟩ := same_bytes hc a ha
    have hr : r.size ≤ 7 := by
      rcases hca with hca | hca
      · rw [nbytes_err s0 c a hca] at h1
        simp only [Option.some.injEq, Prod.mk.injEq] at h1
        rw [← h1.1]; show 0 ≤ 7; omega
      · omega
    refine ⟨val (bytesOf r), s0', s1', t1', t2', ?_, ?_, h3⟩
    · rw [bnd h1]; dsimp only; rw [if_pos (by omega), num_val _ (bytes8_bytesOf r) (by rw [bytesOf_size]; exact hr)]
    · rw [bnd h2]; dsimp only; rw [bnd (ref_num_told (by omega) r hr)]
  unfold num_Reader_Fixed.f garretref01_Reader_Fixed.f
  by_cases he : s1 = 0
  · subst he
    rw [if_pos rfl]
    by_cases hb : a < 1 ∨ a > 7
    · obtain ⟨r, s0', s1', t1', t2', h1, h2, h3⟩ := go 1 (h.set 1) (.inl (by decide))
      refine ⟨r, s0', s1', t1', t2', ?_, ?_, h3⟩
      · rw [if_pos hb, bnd (fail_told _ _ _)]; dsimp only; rw [if_pos rfl]; exact h1
      · by_cases h1' : a < 1
        · rw [if_pos h1']; simp only [garretref01_Reader_Fixed.j0]; rw [if_pos True.intro]; exact h2
        · rw [if_neg h1', decide_eq_true (by omega)]; simp only [garretref01_Reader_Fixed.j0]; rw [if_pos True.intro]; exact h2
    · obtain ⟨r, s0', s1', t1', t2', h1, h2, h3⟩ := go 0 h (.inr (by omega))
      refine ⟨r, s0', s1', t1', t2', ?_, ?_, h3⟩
      · rw [if_neg hb]; exact h1
      · rw [if_neg (by omega), decide_eq_false (by omega)]; simp only [garretref01_Reader_Fixed.j0]; rw [if_neg (by simp)]; exact h2
  · rw [if_neg he]
    obtain ⟨r, s0', s1', t1', t2', h1, h2, h3⟩ := go s1 h (.inl he)
    refine ⟨r, s0', s1', t1', t2', ?_, ?_, h3⟩
    · by_cases hb : a < 1 ∨ a > 7
      · rw [if_pos hb, bnd (fail_told _ _ _)]; dsimp only; rw [if_neg he]; exact h1
      · rw [if_neg hb]; exact h1
    · simp only [garretref01_Reader_Fixed.j0]; rw [if_neg (by simp)]; exact h2
/-! ### short numbers -/
theorem tmod128 (c : Int) (h0 : 0 ≤ c) : Int.tmod c 128 = c % 128 := Int.tmod_eq_emod_of_nonneg h0
theorem shl7 (c : Int) (i : Nat) (hi : i < 9) (hc0 : 0 ≤ c) (hc1 : c < 128) : shl .i64 c (7 * (i : Int)) = c * 128 ^ i ∧ 0 ≤ c * 128 ^ i ∧ c * 128 ^ i ≤ 127 * 128 ^ i := by
  have hp0 : (0 : Int) < 128 ^ i := Int.pow_pos (by omega)
  have hp : (128 : Int) ^ i ≤ 128 ^ 8 := by exact_mod_cast Nat.pow_le_pow_right (show 0 < 128 by omega) (show i ≤ 8 by omega)
  have h1 : c * 128 ^ i ≤ 127 * 128 ^ i := Int.mul_le_mul_of_nonneg_right (by omega) (Int.le_of_lt hp0)
  have h2 : 0 ≤ c * 128 ^ i := Int.mul_nonneg hc0 (Int.le_of_lt hp0)
  refine ⟨?_, h2, h1⟩
  unfold shl
  rw [show min ((7 * (i : Int))).toNat IntKind.i64.bits = 7 * i by simp [IntKind.bits]; omega, ← pow128]
  generalize c * 128 ^ i = z at *
  generalize (128 : Int) ^ i = q at *
  rw [i64_w]; unfold wrap64; omega
/-- What the reference's loop tells, of what the bytes are. -/
def after (most : Int) (t0 : ByteArray) (t1 : Int) : Int × Int × Int → Int × ByteArray × Int × Int
  | (n, j, c) => if c = 0 then (if n > most then (0, t0, t1, 2) else (n, t0, t1 + j, 0)) else (0, t0, t1, c)
theorem after_bad {most : Int} {t0 : ByteArray} {t1 n j c : Int} (h : c ≠ 0) : after most t0 t1 (n, j, c) = (0, t0, t1, c) := by unfold after; exact if_neg h
theorem after_ok {most : Int} {t0 : ByteArray} {t1 n j : Int} : after most t0 t1 (n, j, 0) = if n > most then (0, t0, t1, 2) else (n, t0, t1 + j, 0) := by unfold after; exact if_pos rfl
theorem dec_nil (e acc : Int) (i : Nat) : decGo e [] acc i = (0, 0, e) := rfl
theorem dec_cons (e c acc : Int) (cs : List Int) (i : Nat) : decGo e (c :: cs) acc i = if c ≥ 128 then decGo e cs (acc + (c - 128) * 128 ^ i) (i + 1) else if c = 0 ∧ i > 0 then (0, 0, 3) else (acc + c * 128 ^ i, i + 1, 0) := rfl
theorem ref_short (t0 : ByteArray) (t1 most : Int) (s : ByteArray) (hl : 0 ≤ t1) (hh : t1 ≤ t0.size) (hm : t0.size ≤ 140737488351232) (hs : bytesOf s = (bytesOf t0).drop t1.toNat) :
    ∀ (d k i : Nat) (acc : Int), 9 - i = d → 2 * d + 2 ≤ k → i ≤ 9 → i ≤ s.size → 0 ≤ acc → acc < 128 ^ i →
    garretref01_Reader_Short.l0 k most acc i t0 t1 0 = some (after most t0 t1 (decGo (if s.size < 9 then 10 else 3) (((bytesOf s).take 9).drop i) acc i)) := by
  intro d
  induction d with
  | zero =>
    intro k i acc hd hk hi his ha0 ha
    obtain ⟨k, rfl⟩ : ∃ m, k = m + 1 := ⟨k - 1, by omega⟩
    have h9 : i = 9 := by omega
    subst h9
    rw [List.drop_eq_nil_of_le (by rw [List.length_take]; omega), if_neg (by omega)]
    rw [dec_nil, after_bad (by decide)]
    simp only [garretref01_Reader_Short.l0]
    rw [if_neg (by decide)]
  | succ d ih =>
    intro k i acc hd hk hi his ha0 ha
    obtain ⟨k, rfl⟩ : ∃ m, k = m + 2 := ⟨k - 2, by omega⟩
    have hsz : (s.size : Int) = t0.size - t1 := by
      have := congrArg List.length hs
      rw [bytesOf_size, List.length_drop, bytesOf_size] at this
      omega
    have e0 : wrap64 (t1 + (i : Int)) = t1 + i := w64 (by omega) (by omega)
    simp only [garretref01_Reader_Short.l0]
    rw [if_pos (by omega), e0]
    by_cases hend : i = s.size
    · rw [if_pos (by omega), List.drop_eq_nil_of_le (by rw [List.length_take, bytesOf_size]; omega), if_pos (by omega)]
      rw [dec_nil, after_bad (by decide)]
    · have hlt : i < s.size := by omega
      have hbt : bt t0 (t1 + (i : Int)) = bt s i := by
        obtain ⟨q, hq⟩ := Int.eq_ofNat_of_zero_le hl
        subst hq
        rw [← Int.natCast_add, bt_eq t0 (q + i) (by omega), bt_eq s i hlt]
        simp only [hs, List.getElem_drop, Int.toNat_natCast]
      obtain ⟨hb0, hb1⟩ := bytes8_bytesOf s (bt s i) (by rw [bt_eq s i hlt]; exact List.getElem_mem _)
      have hcons : ((bytesOf s).take 9).drop i = bt s i :: ((bytesOf s).take 9).drop (i + 1) := by
        rw [List.drop_eq_getElem_cons (by rw [List.length_take, bytesOf_length]; omega), List.getElem_take, bt_eq s i hlt]
      have hnx := fun acc' h0 h1 => ih (k + 1) (i + 1) acc' (by omega) (by omega) (by omega) (by omega) h0 h1
      have q1 : ¬ t1 + (i : Int) ≥ t0.size := by omega
      have q2 : 0 ≤ t1 + (i : Int) := by omega
      have q3 : t1 + (i : Int) < t0.size := by omega
      have q4 : i < 9 := by omega
      have q5 : -9223372036854775808 ≤ t1 + ((i : Int) + 1) ∧ t1 + ((i : Int) + 1) < 9223372036854775808 := by omega
      have hp0 : (0 : Int) < 128 ^ i := Int.pow_pos (by decide)
      have hp : (128 : Int) ^ i ≤ 72057594037927936 := by
        have : (128 : Int) ^ i ≤ 128 ^ 8 := by exact_mod_cast Nat.pow_le_pow_right (show 0 < 128 by omega) (show i ≤ 8 by omega)
        simpa using this
      clear hsz hs hd hk hi his hend hlt ih hl hh hm
      have e1 : wrap64 (bt s (i : Int)) = bt s i := by clear hcons hnx hbt hp hp0 q1 q2 q3 q5; exact w64 (by omega) (by omega)
      have e2 : wrap64 (7 * (i : Int)) = 7 * i := by clear hcons hnx hbt hp hp0 q1 q2 q3 q5 e1; exact w64 (by omega) (by omega)
      have e4 : wrap64 ((i : Int) + 1) = (i : Int) + 1 := by clear hcons hnx hbt hp hp0 q1 q2 q3 q5 e1 e2; exact w64 (by omega) (by omega)
      have m0 : 0 ≤ bt s (i : Int) % 128 := by clear hcons hnx hbt hp hp0 q1 q2 q3 q5 e1 e2 e4; omega
      have m1 : bt s (i : Int) % 128 < 128 := by clear hcons hnx hbt hp hp0 q1 q2 q3 q5 e1 e2 e4; omega
      obtain ⟨f1, f2, f3⟩ := shl7 (bt s i % 128) i q4 m0 m1
      have e3 : wrap64 (acc + bt s i % 128 * 128 ^ i) = acc + bt s i % 128 * 128 ^ i := by
        clear hcons hnx hbt f1 e1 e2 e4 q1 q2 q3 q5
        generalize bt s i % 128 * 128 ^ i = z at *
        generalize (128 : Int) ^ i = y at *
        clear m0 m1
        exact w64 (by omega) (by omega)
      rw [if_neg q1, if_pos q2, if_pos q3, e2, if_pos (show (0 : Int) ≤ 7 * (i : Int) from Int.mul_nonneg (by decide) (Int.natCast_nonneg i)), hbt, e1, tmod128 _ hb0, f1, e3, hcons, dec_cons]
      by_cases h128 : bt s i ≥ 128
      · have hz : bt s (i : Int) % 128 = bt s i - 128 := by clear hcons hnx f1 f2 f3 e3 hp hp0 q1 q2 q3 q5 e0 e1 e2 e4 hbt ha ha0; omega
        obtain ⟨b1, b2⟩ := dec_bound acc (128 ^ i) (bt s i - 128) hp0 (by clear hcons hnx f1 f2 f3 e3 hp hp0 q1 q2 q3 q5 e0 e1 e2 e4 hbt ha ha0; omega) (by clear hcons hnx f1 f2 f3 e3 hp hp0 q1 q2 q3 q5 e0 e1 e2 e4 hbt ha ha0; omega) ha0 ha
        rw [← Int.pow_succ] at b2
        have hr := hnx _ b1 b2
        rw [Int.natCast_add] at hr
        rw [if_neg (by clear hcons hnx f1 f2 f3 e3 hp hp0 q1 q2 q3 q5 e0 e1 e2 e4 hbt ha ha0 hr b1 b2; omega), if_pos h128, e4, hz]
        exact hr
      · have hz : bt s (i : Int) % 128 = bt s i := by clear hcons hnx f1 f2 f3 e3 hp hp0 q1 q2 q3 q5 e0 e1 e2 e4 hbt ha ha0; omega
        rw [if_pos (by clear hcons hnx f1 f2 f3 e3 hp hp0 q1 q2 q3 q5 e0 e1 e2 e4 hbt ha ha0 hz; omega), if_neg h128, hz]
        have hj : ∀ (n : Int) (b : Bool), garretref01_Reader_Short.j1 (k + 1) most n i b t0 t1 0 = some (if b = true then (0, t0, t1, 3) else if n > most then (0, t0, t1, 2) else (n, t0, t1 + ((i : Int) + 1), 0)) := by
          intro n b
          simp only [garretref01_Reader_Short.j1]
          rw [e4, w64 q5.1 q5.2]
          split
          · rfl
          · split <;> rfl
        by_cases hc0 : bt s i = 0
        · rw [if_pos hc0, hj]
          by_cases hi0 : i > 0
          · have hi1 : (i : Int) > 0 := by exact_mod_cast hi0
            rw [if_pos (decide_eq_true hi1), if_pos (show bt s (i : Int) = 0 ∧ i > 0 from ⟨hc0, hi0⟩), after_bad (by decide)]
          · have hi1 : ¬ (i : Int) > 0 := by exact_mod_cast hi0
            rw [decide_eq_false hi1, if_neg (show ¬ (false = true) by decide), if_neg (show ¬ (bt s (i : Int) = 0 ∧ i > 0) from fun h => hi0 h.2), after_ok]
        · rw [if_neg hc0, hj, if_neg (show ¬ (false = true) by decide), if_neg (show ¬ (bt s (i : Int) = 0 ∧ i > 0) from fun h => hc0 h.1), after_ok]
theorem same_short {k : Nat} (hk : 20 ≤ k) {s0 : ByteArray} {s1 : Int} {t0 : ByteArray} {t1 t2 : Int} (h : Rel s0 s1 t0 t1 t2) (a : Int) :
    ∃ r s0' s1' t1' t2', num_Reader_Short.f k s0 s1 a = some (r, s0', s1') ∧ garretref01_Reader_Short.f k t0 t1 t2 a = some (r, t0, t1', t2') ∧ Rel s0' s1' t0 t1' t2' ∧ r < 9223372036854775808 := by
  obtain rfl := h.code
  unfold garretref01_Reader_Short.f
  by_cases he : s1 = 0
  · subst he
    rw [if_pos rfl]
    have hr := ref_short t0 t1 a s0 h.low h.high h.small h.rest 9 k 0 0 rfl (by omega) (by omega) (by omega) (by omega) (by decide)
    rw [List.drop_zero] at hr
    obtain ⟨⟨n, j, c⟩, hd⟩ : ∃ r, decGo (if s0.size < 9 then 10 else 3) ((bytesOf s0).take 9) 0 0 = r := ⟨_, rfl⟩
    rw [hd] at hr
    by_cases hc : c = 0
    · subst hc
      obtain ⟨m, len, hn, hj, henc, hl, _⟩ := decGo_ok (by split <;> decide) _ _ _ _ _ (fun c hc => bytes8_bytesOf s0 c (List.mem_of_mem_take hc)) hd
      simp only [Int.pow_zero, Int.mul_one, Int.zero_add] at hn
      obtain rfl : n = m := by simpa using hn
      obtain rfl : j = len := by simpa using hj
      have hl9 : len ≤ 9 ∧ len ≤ s0.size := by
        rw [List.length_take, bytesOf_size] at hl
        omega
      have hlen : (encS m).length = len := by rw [henc, List.length_take]; omega
      have hm : m < 9223372036854775808 := by
        have h1 := encS_lt m
        rw [hlen] at h1
        have h2 : 128 ^ len ≤ 128 ^ 9 := Nat.pow_le_pow_right (by omega) hl9.1
        omega
      rw [after_ok] at hr
      by_cases hmost : (m : Int) > a
      · rw [if_pos hmost] at hr
        refine ⟨0, s0, 2, t1, 2, ?_, hr, h.set 2, by omega⟩
        obtain ⟨k, rfl⟩ : ∃ q, k = q + 1 := ⟨k - 1, by omega⟩
        unfold num_Reader_Short.f
        rw [bnd (dec_told (by omega) s0), hd]
        dsimp only
        rw [if_pos rfl, decide_eq_true hmost]
        simp only [num_Reader_Short.j0]
        rw [if_pos True.intro, bnd (fail_told _ _ _)]
        dsimp only
        rw [if_pos rfl, if_neg (by decide)]
      · rw [if_neg hmost] at hr
        have hsz := h.size; have := h.low; have := h.high
        refine ⟨m, _, 0, t1 + len, 0, rshort_ok (by omega) s0 a m len hd (by omega) hl9.2, hr, ⟨rfl, by omega, by omega, h.small, ?_⟩, by omega⟩
        rw [bytesOf_extract, h.rest, List.drop_drop, List.take_of_length_le (by rw [List.length_drop, bytesOf_size]; omega)]
        congr 1; omega
    · rw [after_bad hc] at hr
      exact ⟨0, s0, c, t1, c, rshort_bad (by omega) s0 a n j c hd hc, hr, h.set c, by omega⟩
  · rw [if_neg he]
    exact ⟨0, s0, s1, t1, s1, rshort_err (by omega) s0 s1 a he, rfl, h, by omega⟩
theorem same_text {k : Nat} (hk : 20 ≤ k) {s0 : ByteArray} {s1 : Int} {t0 : ByteArray} {t1 t2 : Int} (h : Rel s0 s1 t0 t1 t2) (a : Int) :
    ∃ r s0' s1' t1' t2', num_Reader_Text.f k s0 s1 a = some (r, s0', s1') ∧ garretref01_Reader_Text.f k t0 t1 t2 a = some (r, t0, t1', t2') ∧ Rel s0' s1' t0 t1' t2' := by
  obtain ⟨r, u0, u1, v1, v2, h1, h2, h3, hr⟩ := same_short hk h a
  obtain ⟨b, x0, x1, y1, y2, h4, h5, h6, _⟩ := same_bytes h3 r hr
  unfold num_Reader_Text.f garretref01_Reader_Text.f
  rw [bnd h1, bnd h2]
  dsimp only
  rw [bnd h4, bnd h5]
  dsimp only
  have hc := h6.code
  subst hc
  by_cases he : x1 = 0
  · rw [if_pos he, if_pos he]; exact ⟨_, _, _, _, _, rfl, rfl, h6⟩
  · rw [if_neg he, if_neg he]; exact ⟨_, _, _, _, _, rfl, rfl, h.set x1⟩
theorem same_end {s0 : ByteArray} {s1 : Int} {t0 : ByteArray} {t1 t2 : Int} (h : Rel s0 s1 t0 t1 t2) :
    ∃ r s0' s1' t1' t2', num_Reader_End.f s0 s1 = some (r, s0', s1') ∧ garretref01_Reader_End.f t0 t1 t2 = some (r, t0, t1', t2') ∧ Rel s0' s1' t0 t1' t2' := by
  unfold num_Reader_End.f garretref01_Reader_End.f
  rw [bnd (show num_Reader_Left.f s0 s1 = some ((s0.size : Int), s0, s1) from rfl), bnd (rleft h)]
  dsimp only
  obtain rfl := h.code
  by_cases hz : (s0.size : Int) > 0
  · rw [if_pos hz, if_pos hz, bnd (fail_told _ _ _), bnd (rfail _ _ _ _)]
    exact ⟨_, _, _, _, _, rfl, rfl, h.fail 3⟩
  · rw [if_neg hz, if_neg hz]
    exact ⟨_, _, _, _, _, rfl, rfl, h⟩
end Go.Proofs.Ytfhipccjnmfefaa.Same
