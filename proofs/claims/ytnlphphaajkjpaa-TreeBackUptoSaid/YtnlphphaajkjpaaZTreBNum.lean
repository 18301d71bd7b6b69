/- Plain facts of the num package's printed functions: what a short number's bytes are, what bytes are as a short number, what a reader does. -/
import Derived.Test.YtnlphphaajkjpaaQTreBx6
namespace Go.Proofs.Ytnlphphaajkjpaa.QTreB
open Go.RowKit Go.Proofs.YtnlphphaajkjpaaW.PrintWords Go.Proofs.YtnlphphaajkjpaaW.PrintLast Go.Proofs.YtnlphphaajkjpaaW.PrintMore
set_option linter.unusedVariables false

theorem w64 {x : Int} (h0 : -9223372036854775808 ≤ x) (h1 : x < 9223372036854775808) : wrap64 x = x := by unfold wrap64; omega
/-- A bind whose first part is known: by this, not by simp (the kernel would compare the two binds by running them). -/
theorem bnd {α β : Type} {a : Option α} {x : α} {f : α → Option β} (h : a = some x) : a.bind f = f x := by rw [h]; rfl
/-! ### bytes -/
def Bytes8 (l : List Int) : Prop := ∀ c ∈ l, 0 ≤ c ∧ c < 256
theorem bytes8_bytesOf (s : ByteArray) : Bytes8 (bytesOf s) := by
  intro c hc
  simp only [bytesOf, List.mem_map] at hc
  obtain ⟨b, _, rfl⟩ := hc
  have := b.toNat_lt
  omega
theorem bytesOf_strOfNums {l : List Int} (h : Bytes8 l) : bytesOf (strOfNums l) = l := by
  simp only [bytesOf, strOfNums, List.map_map]
  rw [List.map_congr_left (g := id)]
  · simp
  · intro c hc
    obtain ⟨h0, h1⟩ := h c hc
    simp only [Function.comp, id]
    rw [UInt8.toNat_ofNat']
    omega
theorem bytesOf_inj {a b : ByteArray} (h : bytesOf a = bytesOf b) : a = b := by
  have hd : a.data.toList = b.data.toList := by
    unfold bytesOf at h
    refine List.map_inj_right (fun x y hxy => ?_) |>.1 h
    exact UInt8.toNat_inj.1 (by omega)
  cases a; cases b; simp at hd; simp [hd]
theorem bytesOf_append (a b : ByteArray) : bytesOf (a ++ b) = bytesOf a ++ bytesOf b := by
  simp [bytesOf, ByteArray.data_append]
theorem bytesOf_extract (s : ByteArray) (i j : Nat) : bytesOf (s.extract i j) = ((bytesOf s).drop i).take (j - i) := by
  have h : (s.extract i j).data.toList = (s.data.toList.drop i).take (j - i) := by
    rw [ByteArray.data_extract, Array.toList_extract, List.extract_eq_take_drop]
  unfold bytesOf
  rw [h, List.map_take, List.map_drop]
theorem toList_eq {a b : ByteArray} : a.toList = b.toList ↔ a = b := by
  rw [ByteArray.toList_eq, ByteArray.toList_eq]
  constructor
  · intro h; cases a; cases b; simp at h; simp [h]
  · intro h; rw [h]
theorem bt_eq (s : ByteArray) (i : Nat) (h : i < s.size) : bt s (i : Int) = (bytesOf s)[i]'(by rw [bytesOf_length]; exact h) := by
  rw [← rd_bytesOf]
  simp [rd, List.getD_eq_getElem?_getD, List.getElem?_eq_getElem (show i < (bytesOf s).length by rw [bytesOf_length]; exact h)]
theorem size_eq (s : ByteArray) : s.size = (bytesOf s).length := (bytesOf_length s).symm

/-! ### a short number's bytes -/
def encS (x : Nat) : List Int := if h : x < 128 then [(x : Int)] else ((128 + x % 128 : Nat) : Int) :: encS (x / 128)
termination_by x
decreasing_by omega
theorem encS_small {x : Nat} (h : x < 128) : encS x = [(x : Int)] := by rw [encS, dif_pos h]
theorem encS_big {x : Nat} (h : ¬ x < 128) : encS x = ((128 + x % 128 : Nat) : Int) :: encS (x / 128) := by rw [encS, dif_neg h]
theorem encS_bytes (x : Nat) : Bytes8 (encS x) := by
  induction x using Nat.strongRecOn with
  | _ x ih =>
    by_cases h : x < 128
    · rw [encS_small h]; intro c hc; simp at hc; omega
    · rw [encS_big h]
      intro c hc
      rcases List.mem_cons.1 hc with rfl | hc
      · omega
      · exact ih (x / 128) (by omega) c hc
theorem encS_pos (x : Nat) : 1 ≤ (encS x).length := by
  by_cases h : x < 128
  · rw [encS_small h]; simp
  · rw [encS_big h]; simp
theorem encS_len (d : Nat) : ∀ x : Nat, x < 128 ^ (d + 1) → (encS x).length ≤ d + 1 := by
  induction d with
  | zero => intro x h; rw [encS_small (by omega)]; simp
  | succ d ih =>
    intro x h
    by_cases hx : x < 128
    · rw [encS_small hx]; simp
    · rw [encS_big hx]
      have := ih (x / 128) (by rw [Nat.pow_succ] at h; omega)
      simp; omega
theorem encS_len9 {x : Nat} (h : x < 9223372036854775808) : (encS x).length ≤ 9 := encS_len 8 x (by omega)
theorem or_top_nat : ∀ m : Fin 256, (m.val ||| 128) = 128 + m.val % 128 := by decide +kernel
theorem or_top (x : Int) (h : 0 ≤ x) : Go.bits .or .u8 (x % 256) 128 = 128 + x % 128 := by
  obtain ⟨n, rfl⟩ := Int.eq_ofNat_of_zero_le h
  have e : ((n : Int) % 256) = ((n % 256 : Nat) : Int) := by omega
  rw [e, show (128 : Int) = ((128 : Nat) : Int) from rfl, (bits_nat .u8 8 (by decide) wraps_u8 (n % 256) 128 (by omega) (by decide)).2]
  have := or_top_nat ⟨n % 256, by omega⟩
  simp only at this
  rw [this]; omega
theorem short_loop : ∀ (d k : Nat) (x : Nat) (l : List Int), x < 128 ^ (d + 1) → d < k → l.length + d < 140737488355000 → num_Short.l0 k (x : Int) l = some (strOfNums (l ++ encS x), 0) := by
  intro d
  induction d with
  | zero =>
    intro k x l h hk hl
    obtain ⟨k, rfl⟩ : ∃ m, k = m + 1 := ⟨k - 1, by omega⟩
    simp only [num_Short.l0]
    rw [if_neg (by omega), if_pos (by omega), encS_small (by omega), show (x : Int) % 256 = x by omega]
  | succ d ih =>
    intro k x l h hk hl
    obtain ⟨k, rfl⟩ : ∃ m, k = m + 1 := ⟨k - 1, by omega⟩
    simp only [num_Short.l0]
    by_cases hx : x < 128
    · rw [if_neg (by omega), if_pos (by omega), encS_small hx, show (x : Int) % 256 = x by omega]
    · rw [if_pos (by omega), if_pos (by omega), or_top _ (by omega), encS_big hx, show (x : Int) / 128 = ((x / 128 : Nat) : Int) by omega]
      rw [ih k (x / 128) _ (by rw [Nat.pow_succ] at h; omega) (by omega) (by simp; omega), List.append_assoc]
      have : (128 + (x : Int) % 128) = ((128 + x % 128 : Nat) : Int) := by omega
      rw [this]; rfl
theorem short_told {k : Nat} (hk : 9 ≤ k) (x : Int) (h0 : 0 ≤ x) (h1 : x < 9223372036854775808) : num_Short.f k x = some (strOfNums (encS x.toNat), 0) := by
  obtain ⟨n, rfl⟩ := Int.eq_ofNat_of_zero_le h0
  unfold num_Short.f
  rw [if_neg (by omega), short_loop 8 k n [] (by omega) (by omega) (by simp)]
  simp
theorem text_told {k : Nat} (hk : 9 ≤ k) (s : ByteArray) (h1 : s.size < 9223372036854775000) : num_Text.f k s = some (strOfNums (encS s.size) ++ s) := by
  unfold num_Text.f
  rw [short_told hk _ (by omega) (by omega)]
  simp only [Option.bind_some, Int.toNat_natCast]
  rw [if_pos]
  have := encS_len9 (x := s.size) (by omega)
  rw [size_eq (strOfNums _), bytesOf_strOfNums (encS_bytes _)]; omega


/-! ### what bytes are as a short number: the number, how many bytes, the code; e: of bytes that end too early -/
def decGo (e : Int) : List Int → Int → Nat → Int × Int × Int
  | [], _, _ => (0, 0, e)
  | c :: cs, acc, i => if c ≥ 128 then decGo e cs (acc + (c - 128) * 128 ^ i) (i + 1) else if c = 0 ∧ i > 0 then (0, 0, 3) else (acc + c * 128 ^ i, i + 1, 0)
theorem or_comm_ (x y : Int) : Go.bits .or .i64 x y = Go.bits .or .i64 y x := by unfold Go.bits; simp only [BitVec.or_comm]
theorem andNot_nat : ∀ m : Fin 256, Go.bits .andNot .i64 (m.val : Int) 128 = ((m.val % 128 : Nat) : Int) := by decide +kernel
theorem andNot_128 (c : Int) (h0 : 0 ≤ c) (h1 : c < 256) : Go.bits .andNot .i64 c 128 = c % 128 := by
  obtain ⟨n, rfl⟩ := Int.eq_ofNat_of_zero_le h0
  have := andNot_nat ⟨n, by omega⟩
  simp only at this
  rw [this]; omega
theorem pow128 (i : Nat) : (128 : Int) ^ i = 2 ^ (7 * i) := by rw [Int.pow_mul]; rfl
theorem add7 (acc c : Int) (i : Nat) (hi : i < 9) (hc0 : 0 ≤ c) (hc1 : c < 256) (ha0 : 0 ≤ acc) (ha : acc < 128 ^ i) :
    Go.bits .or .i64 acc (shl .i64 (Go.bits .andNot .i64 c 128) (7 * (i : Int))) = acc + (c % 128) * 128 ^ i := by
  rw [andNot_128 c hc0 hc1, or_comm_]
  have hp : (128 : Int) ^ i ≤ 128 ^ 8 := by
    rw [show i = i from rfl]
    exact_mod_cast Nat.pow_le_pow_right (show 0 < 128 by omega) (show i ≤ 8 by omega)
  have hp0 : (0 : Int) < 128 ^ i := Int.pow_pos (by omega)
  have hs : shl .i64 (c % 128) (7 * (i : Int)) = (c % 128) * 128 ^ i := by
    unfold shl
    rw [show min ((7 * (i : Int))).toNat IntKind.i64.bits = 7 * i by simp [IntKind.bits]; omega, ← pow128]
    have h1 : (c % 128) * 128 ^ i ≤ 127 * 128 ^ 8 := Int.mul_le_mul (by omega) hp (by omega) (by omega)
    have h2 : 0 ≤ (c % 128) * 128 ^ i := Int.mul_nonneg (by omega) (by omega)
    generalize (c % 128) * 128 ^ i = z at *
    rw [i64_w]
    unfold wrap64; omega
  rw [hs]
  have h1 : (c % 128) * 128 ^ i ≤ 127 * 128 ^ 8 := Int.mul_le_mul (by omega) hp (by omega) (by omega)
  have h2 : 0 ≤ (c % 128) * 128 ^ i := Int.mul_nonneg (by omega) (by omega)
  rw [bits_join .i64 63 (by decide) (fun n h0 h1 => by rw [i64_w]; unfold wrap64; omega) (7 * i) _ _ h2 (by rw [← pow128]; exact Int.mul_emod_left _ _) (by omega) ha0 (by rw [← pow128]; exact ha) (by omega)]
  omega
theorem dec_bound (acc p c : Int) (hp : 0 < p) (h0 : 0 ≤ c) (h1 : c ≤ 127) (ha0 : 0 ≤ acc) (ha : acc < p) : 0 ≤ acc + c * p ∧ acc + c * p < p * 128 := by
  have hz : 0 ≤ c * p := Int.mul_nonneg h0 (Int.le_of_lt hp)
  have hz2 : c * p ≤ 127 * p := Int.mul_le_mul_of_nonneg_right h1 (Int.le_of_lt hp)
  generalize c * p = z at *
  omega
theorem dec_loop (s : ByteArray) : ∀ (d k : Nat) (i : Nat) (acc : Int), min s.size 9 - i = d → d < k → i ≤ min s.size 9 → 0 ≤ acc → acc < 128 ^ i →
    num_short.l0 k s acc (mn (s.size : Int) 9) i = some (decGo (if s.size < 9 then 10 else 3) (((bytesOf s).take 9).drop i) acc i) := by
  intro d
  induction d with
  | zero =>
    intro k i acc hd hk hi ha0 ha
    obtain ⟨k, rfl⟩ : ∃ m, k = m + 1 := ⟨k - 1, by omega⟩
    have hm : mn (s.size : Int) 9 = ((min s.size 9 : Nat) : Int) := by unfold mn; split <;> omega
    rw [List.drop_eq_nil_of_le (by rw [List.length_take, bytesOf_length]; omega)]
    simp only [num_short.l0, decGo]
    rw [if_neg (by rw [hm]; omega)]
    by_cases h9 : s.size < 9
    · rw [if_pos (by omega), if_pos h9]
    · rw [if_neg (by omega), if_neg h9]
  | succ d ih =>
    intro k i acc hd hk hi ha0 ha
    obtain ⟨k, rfl⟩ : ∃ m, k = m + 1 := ⟨k - 1, by omega⟩
    have hm : mn (s.size : Int) 9 = ((min s.size 9 : Nat) : Int) := by unfold mn; split <;> omega
    have hlt : i < s.size := by omega
    have t1 : (i : Int) < mn (s.size : Int) 9 := by rw [hm]; omega
    have t2 : (0 : Int) ≤ i := by omega
    have t3 : (i : Int) < s.size := by omega
    have q1 : min s.size 9 - (i + 1) = d := by omega
    have q2 : d < k := by omega
    have q3 : i + 1 ≤ min s.size 9 := by omega
    have q6 : i < 9 := by omega
    clear hm hi hd hk
    have e1 : wrap64 ((i : Int) + 1) = (i : Int) + 1 := by clear q1 q3; exact w64 (by omega) (by omega)
    have hw7 : wrap64 (7 * (i : Int)) = 7 * i := by clear q1 q3; exact w64 (by omega) (by omega)
    have hp0 : (0 : Int) < 128 ^ i := Int.pow_pos (by omega)
    have hcons : ((bytesOf s).take 9).drop i = bt s i :: ((bytesOf s).take 9).drop (i + 1) := by
      rw [List.drop_eq_getElem_cons (by rw [List.length_take, bytesOf_length]; clear q1 q3; omega), List.getElem_take, bt_eq s i hlt]
    obtain ⟨hb0, hb1⟩ := bytes8_bytesOf s (bt s i) (by rw [bt_eq s i hlt]; exact List.getElem_mem _)
    have hw : wrap64 (bt s (i : Int)) = bt s i := by clear q1 q3; exact w64 (by omega) (by omega)
    have q5 : bt s i - 128 ≤ 127 := by clear q1 q3; omega
    have hadd := add7 acc (bt s i) i q6 hb0 hb1 ha0 ha
    have t4 : (0 : Int) ≤ 7 * i := by clear q1 q3; omega
    have t5 : ¬ bt s i ≥ 128 → bt s i % 128 = bt s i := fun h => by clear q1 q3 hadd; omega
    have t6 : bt s i % 128 = bt s i - 128 ∨ ¬ bt s i ≥ 128 := by clear q1 q3 hadd; omega
    rw [hcons]
    simp only [num_short.l0, decGo]
    rw [if_pos t1, if_pos t2, if_pos t3, hw, hw7, if_pos t4, hadd]
    clear hadd hcons hw hw7 t1 t3 t4
    by_cases h128 : bt s i ≥ 128
    · obtain ⟨hb1, hb2⟩ := dec_bound acc (128 ^ i) (bt s i - 128) hp0 (by clear ih q1 q3; omega) q5 ha0 ha
      rw [← Int.pow_succ] at hb2
      have hrec := ih k (i + 1) (acc + (bt s i - 128) * 128 ^ i) q1 q2 q3 hb1 hb2
      rw [if_pos h128, if_pos h128, e1, t6.resolve_right (fun h => h h128)]
      rw [Int.natCast_add] at hrec
      exact hrec
    · rw [if_neg h128, if_neg h128, t5 h128, e1]
      clear ih ha ha0 hp0 e1 q1 q3
      by_cases h0 : bt s i = 0
      · rw [if_pos h0]
        by_cases hi0 : (i : Int) > 0
        · rw [if_pos hi0, if_pos ⟨h0, by omega⟩]
        · rw [if_neg hi0, if_neg (fun h => hi0 (by omega))]
      · rw [if_neg h0, if_neg (fun h => h0 h.1)]
theorem dec_told {k : Nat} (hk : 10 ≤ k) (s : ByteArray) : num_short.f k s = some (decGo (if s.size < 9 then 10 else 3) ((bytesOf s).take 9) 0 0) := by
  unfold num_short.f
  exact dec_loop s (min s.size 9) k 0 0 rfl (by omega) (by omega) (by omega) (by omega)

theorem decGo_ok {e : Int} (he : e ≠ 0) : ∀ (cs : List Int) (acc : Int) (i : Nat) (n j : Int), Bytes8 cs → decGo e cs acc i = (n, j, 0) →
    ∃ m len : Nat, n = acc + m * 128 ^ i ∧ j = i + len ∧ encS m = cs.take len ∧ len ≤ cs.length ∧ (0 < i → 1 ≤ m) := by
  intro cs
  induction cs with
  | nil => intro acc i n j _ h; simp only [decGo, Prod.mk.injEq] at h; exact absurd h.2.2 he
  | cons b cs ih =>
    intro acc i n j hb h
    obtain ⟨hb0, hb1⟩ := hb b (List.mem_cons_self ..)
    simp only [decGo] at h
    split at h
    · rename_i h128
      obtain ⟨m, len, hn, hj, henc, hl, hm⟩ := ih _ _ _ _ (fun c hc => hb c (List.mem_cons_of_mem _ hc)) h
      have hm := hm (by omega)
      obtain ⟨q, hq⟩ := Int.eq_ofNat_of_zero_le (show 0 ≤ b - 128 by omega)
      refine ⟨q + 128 * m, len + 1, ?_, by omega, ?_, by simp; omega, fun _ => by omega⟩
      · rw [hn, hq, Int.pow_succ, Int.natCast_add, Int.natCast_mul, Int.add_mul, Int.add_assoc]
        congr 2
        rw [Int.mul_comm ((128 : Nat) : Int) (m : Int), Int.mul_assoc, Int.mul_comm ((128 : Nat) : Int)]
        rfl
      · rw [encS_big (by omega), List.take_succ_cons, ← henc]
        congr 1
        · omega
        · congr 1; omega
    · rename_i h128
      split at h
      · simp only [Prod.mk.injEq] at h; omega
      · rename_i h0
        simp only [Prod.mk.injEq] at h
        obtain ⟨q, hq⟩ := Int.eq_ofNat_of_zero_le hb0
        refine ⟨q, 1, by rw [← h.1, hq], by rw [← h.2.1]; rfl, by rw [encS_small (by omega), hq]; rfl, by simp, fun hi => by omega⟩
theorem decGo_enc (e : Int) (x : Nat) : ∀ (acc : Int) (i : Nat) (rest : List Int), (0 < i → 1 ≤ x) → decGo e (encS x ++ rest) acc i = (acc + x * 128 ^ i, ((i + (encS x).length : Nat) : Int), 0) := by
  induction x using Nat.strongRecOn with
  | _ x ih =>
    intro acc i rest hi
    by_cases h : x < 128
    · rw [encS_small h]
      simp only [List.cons_append, List.nil_append, decGo]
      rw [if_neg (by omega), if_neg (by omega)]
      rfl
    · rw [encS_big h]
      simp only [List.cons_append, decGo]
      rw [if_pos (by omega), ih (x / 128) (by omega) _ _ _ (fun _ => by omega)]
      refine Prod.ext ?_ (Prod.ext ?_ rfl)
      · show acc + (((128 + x % 128 : Nat) : Int) - 128) * 128 ^ i + ((x / 128 : Nat) : Int) * 128 ^ (i + 1) = acc + x * 128 ^ i
        rw [Int.pow_succ, show (((128 + x % 128 : Nat) : Int) - 128) = ((x % 128 : Nat) : Int) by omega, Int.add_assoc]
        congr 1
        rw [Int.mul_comm (128 ^ i) 128, ← Int.mul_assoc, ← Int.add_mul]
        congr 1
        omega
      · show ((i + 1 + (encS (x / 128)).length : Nat) : Int) = _
        simp; omega
/-! ### a reader -/
theorem fail_told (s : ByteArray) (e c : Int) : num_Reader_Fail.f s e c = some (s, if e = 0 then c else e) := by
  unfold num_Reader_Fail.f; split <;> rfl
theorem bytesOf_size (s : ByteArray) : (bytesOf s).length = s.size := bytesOf_length s
theorem rshort_err {k : Nat} (hk : 11 ≤ k) (s : ByteArray) (e most : Int) (he : e ≠ 0) : num_Reader_Short.f k s e most = some (0, s, e) := by
  obtain ⟨k, rfl⟩ : ∃ m, k = m + 1 := ⟨k - 1, by omega⟩
  unfold num_Reader_Short.f
  rw [dec_told (by omega)]
  obtain ⟨n, j, c⟩ := decGo (if s.size < 9 then 10 else 3) ((bytesOf s).take 9) 0 0
  simp only [Option.bind_some, num_Reader_Short.j0, fail_told, if_neg he]
  split
  · split <;> rfl
  · rfl
theorem rshort_bad {k : Nat} (hk : 11 ≤ k) (s : ByteArray) (most n j c : Int) (hd : decGo (if s.size < 9 then 10 else 3) ((bytesOf s).take 9) 0 0 = (n, j, c)) (hc : c ≠ 0) :
    num_Reader_Short.f k s 0 most = some (0, s, c) := by
  obtain ⟨k, rfl⟩ : ∃ m, k = m + 1 := ⟨k - 1, by omega⟩
  unfold num_Reader_Short.f
  rw [dec_told (by omega), hd]
  simp only [Option.bind_some]
  rw [if_neg hc]
  simp only [num_Reader_Short.j0, fail_told]
  rw [if_neg (by decide)]
  simp only [Option.bind_some, if_true]
  rw [if_neg hc]
theorem rshort_ok {k : Nat} (hk : 11 ≤ k) (s : ByteArray) (most n : Int) (j : Nat) (hd : decGo (if s.size < 9 then 10 else 3) ((bytesOf s).take 9) 0 0 = (n, (j : Int), 0)) (hn : n ≤ most) (hj : j ≤ s.size) :
    num_Reader_Short.f k s 0 most = some (n, s.extract j s.size, 0) := by
  obtain ⟨k, rfl⟩ : ∃ m, k = m + 1 := ⟨k - 1, by omega⟩
  unfold num_Reader_Short.f
  rw [dec_told (by omega), hd]
  simp only [Option.bind_some, if_true]
  rw [decide_eq_false (by omega)]
  simp only [num_Reader_Short.j0, fail_told]
  rw [if_neg (by decide)]
  simp only [Option.bind_some, if_true]
  rw [if_pos (by omega), if_pos (by omega)]
  simp

end Go.Proofs.Ytnlphphaajkjpaa.QTreB
