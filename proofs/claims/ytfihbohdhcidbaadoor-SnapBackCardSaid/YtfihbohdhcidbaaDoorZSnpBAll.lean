import Derived.Test.YtfihbohdhcidbaaDoorQSnpBx8
import Derived.Test.YtfihbohdhcidbaaDoorYPathAll
section
/- Plain facts of the num package's printed functions: what a short number's bytes are, what bytes are as a short number, what a reader does. -/
namespace Go.Proofs.YtfihbohdhcidbaaDoor.QSnpB
open Go.RowKit Go.Proofs.YtfihbohdhcidbaaDoorW.PrintWords Go.Proofs.YtfihbohdhcidbaaDoorW.PrintLast Go.Proofs.YtfihbohdhcidbaaDoorW.PrintMore
set_option linter.unusedVariables false

theorem w64 {x : Int} (h0 : -9223372036854775808 ≤ x) (h1 : x < 9223372036854775808) : wrap64 x = x := by unfold wrap64; omega
/-- A bind whose first part is known: by this, not by simp (the kernel would compare the two binds by running them). -/
theorem bnd {α β : Type} {a : Option α} {x : α} {f : α → Option β} (h : a = some x) : a.bind f = f x := by rw [h]; rfl
/-! ### bytes -/
def Bytes8 (l : List Int) : Prop := ∀ c ∈ l, 0 ≤ c ∧ c < 256
theorem bytes8_bytesOf (s : ByteArray) : Bytes8 (bytesOf s) := by
  intro c hc
  simp only [bytesOf, List.mem_map] at hc
  obtain ⟨b, _, rfl⟩ := hc
  have := b.toNat_lt
  omega
theorem bytesOf_strOfNums {l : List Int} (h : Bytes8 l) : bytesOf (strOfNums l) = l := by
  simp only [bytesOf, strOfNums, List.map_map]
  rw [List.map_congr_left (g := id)]
  · simp
  · intro c hc
    obtain ⟨h0, h1⟩ := h c hc
    simp only [Function.comp, id]
    rw [UInt8.toNat_ofNat']
    omega
theorem bytesOf_inj {a b : ByteArray} (h : bytesOf a = bytesOf b) : a = b := by
  have hd : a.data.toList = b.data.toList := by
    unfold bytesOf at h
    refine List.map_inj_right (fun x y hxy => ?_) |>.1 h
    exact UInt8.toNat_inj.1 (by omega)
  cases a; cases b; simp at hd; simp [hd]
theorem bytesOf_append (a b : ByteArray) : bytesOf (a ++ b) = bytesOf a ++ bytesOf b := by
  simp [bytesOf, ByteArray.data_append]
theorem bytesOf_extract (s : ByteArray) (i j : Nat) : bytesOf (s.extract i j) = ((bytesOf s).drop i).take (j - i) := by
  have h : (s.extract i j).data.toList = (s.data.toList.drop i).take (j - i) := by
    rw [ByteArray.data_extract, Array.toList_extract, List.extract_eq_take_drop]
  unfold bytesOf
  rw [h, List.map_take, List.map_drop]
theorem toList_eq {a b : ByteArray} : a.toList = b.toList ↔ a = b := by
  rw [ByteArray.toList_eq, ByteArray.toList_eq]
  constructor
  · intro h; cases a; cases b; simp at h; simp [h]
  · intro h; rw [h]
theorem bt_eq (s : ByteArray) (i : Nat) (h : i < s.size) : bt s (i : Int) = (bytesOf s)[i]'(by rw [bytesOf_length]; exact h) := by
  rw [← rd_bytesOf]
  simp [rd, List.getD_eq_getElem?_getD, List.getElem?_eq_getElem (show i < (bytesOf s).length by rw [bytesOf_length]; exact h)]
theorem size_eq (s : ByteArray) : s.size = (bytesOf s).length := (bytesOf_length s).symm

/-! ### a short number's bytes -/
def encS (x : Nat) : List Int := if h : x < 128 then [(x : Int)] else ((128 + x % 128 : Nat) : Int) :: encS (x / 128)
termination_by x
decreasing_by omega
theorem encS_small {x : Nat} (h : x < 128) : encS x = [(x : Int)] := by rw [encS, dif_pos h]
theorem encS_big {x : Nat} (h : ¬ x < 128) : encS x = ((128 + x % 128 : Nat) : Int) :: encS (x / 128) := by rw [encS, dif_neg h]
theorem encS_bytes (x : Nat) : Bytes8 (encS x) := by
  induction x using Nat.strongRecOn with
  | _ x ih =>
    by_cases h : x < 128
    · rw [encS_small h]; intro c hc; simp at hc; omega
    · rw [encS_big h]
      intro c hc
      rcases List.mem_cons.1 hc with rfl | hc
      · omega
      · exact ih (x / 128) (by omega) c hc
theorem encS_len (d : Nat) : ∀ x : Nat, x < 128 ^ (d + 1) → (encS x).length ≤ d + 1 := by
  induction d with
  | zero => intro x h; rw [encS_small (by omega)]; simp
  | succ d ih =>
    intro x h
    by_cases hx : x < 128
    · rw [encS_small hx]; simp
    · rw [encS_big hx]
      have := ih (x / 128) (by rw [Nat.pow_succ] at h; omega)
      simp; omega
theorem encS_len9 {x : Nat} (h : x < 9223372036854775808) : (encS x).length ≤ 9 := encS_len 8 x (by omega)
theorem or_top_nat : ∀ m : Fin 256, (m.val ||| 128) = 128 + m.val % 128 := by decide +kernel
theorem or_top (x : Int) (h : 0 ≤ x) : Go.bits .or .u8 (x % 256) 128 = 128 + x % 128 := by
  obtain ⟨n, rfl⟩ := Int.eq_ofNat_of_zero_le h
  have e : ((n : Int) % 256) = ((n % 256 : Nat) : Int) := by omega
  rw [e, show (128 : Int) = ((128 : Nat) : Int) from rfl, (bits_nat .u8 8 (by decide) wraps_u8 (n % 256) 128 (by omega) (by decide)).2]
  have := or_top_nat ⟨n % 256, by omega⟩
  simp only at this
  rw [this]; omega
theorem short_loop : ∀ (d k : Nat) (x : Nat) (l : List Int), x < 128 ^ (d + 1) → d < k → l.length + d < 140737488355000 → num_Short.l0 k (x : Int) l = some (strOfNums (l ++ encS x), 0) := by
  intro d
  induction d with
  | zero =>
    intro k x l h hk hl
    obtain ⟨k, rfl⟩ : ∃ m, k = m + 1 := ⟨k - 1, by omega⟩
    simp only [num_Short.l0]
    rw [if_neg (by omega), if_pos (by omega), encS_small (by omega), show (x : Int) % 256 = x by omega]
  | succ d ih =>
    intro k x l h hk hl
    obtain ⟨k, rfl⟩ : ∃ m, k = m + 1 := ⟨k - 1, by omega⟩
    simp only [num_Short.l0]
    by_cases hx : x < 128
    · rw [if_neg (by omega), if_pos (by omega), encS_small hx, show (x : Int) % 256 = x by omega]
    · rw [if_pos (by omega), if_pos (by omega), or_top _ (by omega), encS_big hx, show (x : Int) / 128 = ((x / 128 : Nat) : Int) by omega]
      rw [ih k (x / 128) _ (by rw [Nat.pow_succ] at h; omega) (by omega) (by simp; omega), List.append_assoc]
      have : (128 + (x : Int) % 128) = ((128 + x % 128 : Nat) : Int) := by omega
      rw [this]; rfl
theorem short_told {k : Nat} (hk : 9 ≤ k) (x : Int) (h0 : 0 ≤ x) (h1 : x < 9223372036854775808) : num_Short.f k x = some (strOfNums (encS x.toNat), 0) := by
  obtain ⟨n, rfl⟩ := Int.eq_ofNat_of_zero_le h0
  unfold num_Short.f
  rw [if_neg (by omega), short_loop 8 k n [] (by omega) (by omega) (by simp)]
  simp
theorem text_told {k : Nat} (hk : 9 ≤ k) (s : ByteArray) (h1 : s.size < 9223372036854775000) : num_Text.f k s = some (strOfNums (encS s.size) ++ s) := by
  unfold num_Text.f
  rw [short_told hk _ (by omega) (by omega)]
  simp only [Option.bind_some, Int.toNat_natCast]
  rw [if_pos]
  have := encS_len9 (x := s.size) (by omega)
  rw [size_eq (strOfNums _), bytesOf_strOfNums (encS_bytes _)]; omega


/-! ### what bytes are as a short number: the number, how many bytes, the code; e: of bytes that end too early -/
def decGo (e : Int) : List Int → Int → Nat → Int × Int × Int
  | [], _, _ => (0, 0, e)
  | c :: cs, acc, i => if c ≥ 128 then decGo e cs (acc + (c - 128) * 128 ^ i) (i + 1) else if c = 0 ∧ i > 0 then (0, 0, 3) else (acc + c * 128 ^ i, i + 1, 0)
theorem or_comm_ (x y : Int) : Go.bits .or .i64 x y = Go.bits .or .i64 y x := by unfold Go.bits; simp only [BitVec.or_comm]
theorem andNot_nat : ∀ m : Fin 256, Go.bits .andNot .i64 (m.val : Int) 128 = ((m.val % 128 : Nat) : Int) := by decide +kernel
theorem andNot_128 (c : Int) (h0 : 0 ≤ c) (h1 : c < 256) : Go.bits .andNot .i64 c 128 = c % 128 := by
  obtain ⟨n, rfl⟩ := Int.eq_ofNat_of_zero_le h0
  have := andNot_nat ⟨n, by omega⟩
  simp only at this
  rw [this]; omega
theorem pow128 (i : Nat) : (128 : Int) ^ i = 2 ^ (7 * i) := by rw [Int.pow_mul]; rfl
theorem add7 (acc c : Int) (i : Nat) (hi : i < 9) (hc0 : 0 ≤ c) (hc1 : c < 256) (ha0 : 0 ≤ acc) (ha : acc < 128 ^ i) :
    Go.bits .or .i64 acc (shl .i64 (Go.bits .andNot .i64 c 128) (7 * (i : Int))) = acc + (c % 128) * 128 ^ i := by
  rw [andNot_128 c hc0 hc1, or_comm_]
  have hp : (128 : Int) ^ i ≤ 128 ^ 8 := by
    rw [show i = i from rfl]
    exact_mod_cast Nat.pow_le_pow_right (show 0 < 128 by omega) (show i ≤ 8 by omega)
  have hp0 : (0 : Int) < 128 ^ i := Int.pow_pos (by omega)
  have hs : shl .i64 (c % 128) (7 * (i : Int)) = (c % 128) * 128 ^ i := by
    unfold shl
    rw [show min ((7 * (i : Int))).toNat IntKind.i64.bits = 7 * i by simp [IntKind.bits]; omega, ← pow128]
    have h1 : (c % 128) * 128 ^ i ≤ 127 * 128 ^ 8 := Int.mul_le_mul (by omega) hp (by omega) (by omega)
    have h2 : 0 ≤ (c % 128) * 128 ^ i := Int.mul_nonneg (by omega) (by omega)
    generalize (c % 128) * 128 ^ i = z at *
    rw [i64_w]
    unfold wrap64; omega
  rw [hs]
  have h1 : (c % 128) * 128 ^ i ≤ 127 * 128 ^ 8 := Int.mul_le_mul (by omega) hp (by omega) (by omega)
  have h2 : 0 ≤ (c % 128) * 128 ^ i := Int.mul_nonneg (by omega) (by omega)
  rw [bits_join .i64 63 (by decide) (fun n h0 h1 => by rw [i64_w]; unfold wrap64; omega) (7 * i) _ _ h2 (by rw [← pow128]; exact Int.mul_emod_left _ _) (by omega) ha0 (by rw [← pow128]; exact ha) (by omega)]
  omega
theorem dec_bound (acc p c : Int) (hp : 0 < p) (h0 : 0 ≤ c) (h1 : c ≤ 127) (ha0 : 0 ≤ acc) (ha : acc < p) : 0 ≤ acc + c * p ∧ acc + c * p < p * 128 := by
  have hz : 0 ≤ c * p := Int.mul_nonneg h0 (Int.le_of_lt hp)
  have hz2 : c * p ≤ 127 * p := Int.mul_le_mul_of_nonneg_right h1 (Int.le_of_lt hp)
  generalize c * p = z at *
  omega
theorem dec_loop (s : ByteArray) : ∀ (d k : Nat) (i : Nat) (acc : Int), min s.size 9 - i = d → d < k → i ≤ min s.size 9 → 0 ≤ acc → acc < 128 ^ i →
    num_short.l0 k s acc (mn (s.size : Int) 9) i = some (decGo (if s.size < 9 then 10 else 3) (((bytesOf s).take 9).drop i) acc i) := by
  intro d
  induction d with
  | zero =>
    intro k i acc hd hk hi ha0 ha
    obtain ⟨k, rfl⟩ : ∃ m, k = m + 1 := ⟨k - 1, by omega⟩
    have hm : mn (s.size : Int) 9 = ((min s.size 9 : Nat) : Int) := by unfold mn; split <;> omega
    rw [List.drop_eq_nil_of_le (by rw [List.length_take, bytesOf_length]; omega)]
    simp only [num_short.l0, decGo]
    rw [if_neg (by rw [hm]; omega)]
    by_cases h9 : s.size < 9
    · rw [if_pos (by omega), if_pos h9]
    · rw [if_neg (by omega), if_neg h9]
  | succ d ih =>
    intro k i acc hd hk hi ha0 ha
    obtain ⟨k, rfl⟩ : ∃ m, k = m + 1 := ⟨k - 1, by omega⟩
    have hm : mn (s.size : Int) 9 = ((min s.size 9 : Nat) : Int) := by unfold mn; split <;> omega
    have hlt : i < s.size := by omega
    have t1 : (i : Int) < mn (s.size : Int) 9 := by rw [hm]; omega
    have t2 : (0 : Int) ≤ i := by omega
    have t3 : (i : Int) < s.size := by omega
    have q1 : min s.size 9 - (i + 1) = d := by omega
    have q2 : d < k := by omega
    have q3 : i + 1 ≤ min s.size 9 := by omega
    have q6 : i < 9 := by omega
    clear hm hi hd hk
    have e1 : wrap64 ((i : Int) + 1) = (i : Int) + 1 := by clear q1 q3; exact w64 (by omega) (by omega)
    have hw7 : wrap64 (7 * (i : Int)) = 7 * i := by clear q1 q3; exact w64 (by omega) (by omega)
    have hp0 : (0 : Int) < 128 ^ i := Int.pow_pos (by omega)
    have hcons : ((bytesOf s).take 9).drop i = bt s i :: ((bytesOf s).take 9).drop (i + 1) := by
      rw [List.drop_eq_getElem_cons (by rw [List.length_take, bytesOf_length]; clear q1 q3; omega), List.getElem_take, bt_eq s i hlt]
    obtain ⟨hb0, hb1⟩ := bytes8_bytesOf s (bt s i) (by rw [bt_eq s i hlt]; exact List.getElem_mem _)
    have hw : wrap64 (bt s (i : Int)) = bt s i := by clear q1 q3; exact w64 (by omega) (by omega)
    have q5 : bt s i - 128 ≤ 127 := by clear q1 q3; omega
    have hadd := add7 acc (bt s i) i q6 hb0 hb1 ha0 ha
    have t4 : (0 : Int) ≤ 7 * i := by clear q1 q3; omega
    have t5 : ¬ bt s i ≥ 128 → bt s i % 128 = bt s i := fun h => by clear q1 q3 hadd; omega
    have t6 : bt s i % 128 = bt s i - 128 ∨ ¬ bt s i ≥ 128 := by clear q1 q3 hadd; omega
    rw [hcons]
    simp only [num_short.l0, decGo]
    rw [if_pos t1, if_pos t2, if_pos t3, hw, hw7, if_pos t4, hadd]
    clear hadd hcons hw hw7 t1 t3 t4
    by_cases h128 : bt s i ≥ 128
    · obtain ⟨hb1, hb2⟩ := dec_bound acc (128 ^ i) (bt s i - 128) hp0 (by clear ih q1 q3; omega) q5 ha0 ha
      rw [← Int.pow_succ] at hb2
      have hrec := ih k (i + 1) (acc + (bt s i - 128) * 128 ^ i) q1 q2 q3 hb1 hb2
      rw [if_pos h128, if_pos h128, e1, t6.resolve_right (fun h => h h128)]
      rw [Int.natCast_add] at hrec
      exact hrec
    · rw [if_neg h128, if_neg h128, t5 h128, e1]
      clear ih ha ha0 hp0 e1 q1 q3
      by_cases h0 : bt s i = 0
      · rw [if_pos h0]
        by_cases hi0 : (i : Int) > 0
        · rw [if_pos hi0, if_pos ⟨h0, by omega⟩]
        · rw [if_neg hi0, if_neg (fun h => hi0 (by omega))]
      · rw [if_neg h0, if_neg (fun h => h0 h.1)]
theorem dec_told {k : Nat} (hk : 10 ≤ k) (s : ByteArray) : num_short.f k s = some (decGo (if s.size < 9 then 10 else 3) ((bytesOf s).take 9) 0 0) := by
  unfold num_short.f
  exact dec_loop s (min s.size 9) k 0 0 rfl (by omega) (by omega) (by omega) (by omega)

theorem decGo_ok {e : Int} (he : e ≠ 0) : ∀ (cs : List Int) (acc : Int) (i : Nat) (n j : Int), Bytes8 cs → decGo e cs acc i = (n, j, 0) →
    ∃ m len : Nat, n = acc + m * 128 ^ i ∧ j = i + len ∧ encS m = cs.take len ∧ len ≤ cs.length ∧ (0 < i → 1 ≤ m) := by
  intro cs
  induction cs with
  | nil => intro acc i n j _ h; simp only [decGo, Prod.mk.injEq] at h; exact absurd h.2.2 he
  | cons b cs ih =>
    intro acc i n j hb h
    obtain ⟨hb0, hb1⟩ := hb b (List.mem_cons_self ..)
    simp only [decGo] at h
    split at h
    · rename_i h128
      obtain ⟨m, len, hn, hj, henc, hl, hm⟩ := ih _ _ _ _ (fun c hc => hb c (List.mem_cons_of_mem _ hc)) h
      have hm := hm (by omega)
      obtain ⟨q, hq⟩ := Int.eq_ofNat_of_zero_le (show 0 ≤ b - 128 by omega)
      refine ⟨q + 128 * m, len + 1, ?_, by omega, ?_, by simp; omega, fun _ => by omega⟩
      · rw [hn, hq, Int.pow_succ, Int.natCast_add, Int.natCast_mul, Int.add_mul, Int.add_assoc]
        congr 2
        rw [Int.mul_comm ((128 : Nat) : Int) (m : Int), Int.mul_assoc, Int.mul_comm ((128 : Nat) : Int)]
        rfl
      · rw [encS_big (by omega), List.take_succ_cons, ← henc]
        congr 1
        · omega
        · congr 1; omega
    · rename_i h128
      split at h
      · simp only [Prod.mk.injEq] at h; omega
      · rename_i h0
        simp only [Prod.mk.injEq] at h
        obtain ⟨q, hq⟩ := Int.eq_ofNat_of_zero_le hb0
        refine ⟨q, 1, by rw [← h.1, hq], by rw [← h.2.1]; rfl, by rw [encS_small (by omega), hq]; rfl, by simp, fun hi => by omega⟩
theorem decGo_enc (e : Int) (x : Nat) : ∀ (acc : Int) (i : Nat) (rest : List Int), (0 < i → 1 ≤ x) → decGo e (encS x ++ rest) acc i = (acc + x * 128 ^ i, ((i + (encS x).length : Nat) : Int), 0) := by
  induction x using Nat.strongRecOn with
  | _ x ih =>
    intro acc i rest hi
    by_cases h : x < 128
    · rw [encS_small h]
      simp only [List.cons_append, List.nil_append, decGo]
      rw [if_neg (by omega), if_neg (by omega)]
      rfl
    · rw [encS_big h]
      simp only [List.cons_append, decGo]
      rw [if_pos (by omega), ih (x / 128) (by omega) _ _ _ (fun _ => by omega)]
      refine Prod.ext ?_ (Prod.ext ?_ rfl)
      · show acc + (((128 + x % 128 : Nat) : Int) - 128) * 128 ^ i + ((x / 128 : Nat) : Int) * 128 ^ (i + 1) = acc + x * 128 ^ i
        rw [Int.pow_succ, show (((128 + x % 128 : Nat) : Int) - 128) = ((x % 128 : Nat) : Int) by omega, Int.add_assoc]
        congr 1
        rw [Int.mul_comm (128 ^ i) 128, ← Int.mul_assoc, ← Int.add_mul]
        congr 1
        omega
      · show ((i + 1 + (encS (x / 128)).length : Nat) : Int) = _
        simp; omega
/-! ### a reader -/
theorem fail_told (s : ByteArray) (e c : Int) : num_Reader_Fail.f s e c = some (s, if e = 0 then c else e) := by
  unfold num_Reader_Fail.f; split <;> rfl
theorem bytesOf_size (s : ByteArray) : (bytesOf s).length = s.size := bytesOf_length s
theorem rshort_err {k : Nat} (hk : 11 ≤ k) (s : ByteArray) (e most : Int) (he : e ≠ 0) : num_Reader_Short.f k s e most = some (0, s, e) := by
  obtain ⟨k, rfl⟩ : ∃ m, k = m + 1 := ⟨k - 1, by omega⟩
  unfold num_Reader_Short.f
  rw [dec_told (by omega)]
  obtain ⟨n, j, c⟩ := decGo (if s.size < 9 then 10 else 3) ((bytesOf s).take 9) 0 0
  simp only [Option.bind_some, num_Reader_Short.j0, fail_told, if_neg he]
  split
  · split <;> rfl
  · rfl
theorem rshort_bad {k : Nat} (hk : 11 ≤ k) (s : ByteArray) (most n j c : Int) (hd : decGo (if s.size < 9 then 10 else 3) ((bytesOf s).take 9) 0 0 = (n, j, c)) (hc : c ≠ 0) :
    num_Reader_Short.f k s 0 most = some (0, s, c) := by
  obtain ⟨k, rfl⟩ : ∃ m, k = m + 1 := ⟨k - 1, by omega⟩
  unfold num_Reader_Short.f
  rw [dec_told (by omega), hd]
  simp only [Option.bind_some]
  rw [if_neg hc]
  simp only [num_Reader_Short.j0, fail_told]
  rw [if_neg (by decide)]
  simp only [Option.bind_some, if_true]
  rw [if_neg hc]
theorem rshort_ok {k : Nat} (hk : 11 ≤ k) (s : ByteArray) (most n : Int) (j : Nat) (hd : decGo (if s.size < 9 then 10 else 3) ((bytesOf s).take 9) 0 0 = (n, (j : Int), 0)) (hn : n ≤ most) (hj : j ≤ s.size) :
    num_Reader_Short.f k s 0 most = some (n, s.extract j s.size, 0) := by
  obtain ⟨k, rfl⟩ : ∃ m, k = m + 1 := ⟨k - 1, by omega⟩
  unfold num_Reader_Short.f
  rw [dec_told (by omega), hd]
  simp only [Option.bind_some, if_true]
  rw [decide_eq_false (by omega)]
  simp only [num_Reader_Short.j0, fail_told]
  rw [if_neg (by decide)]
  simp only [Option.bind_some, if_true]
  rw [if_pos (by omega), if_pos (by omega)]
  simp

end Go.Proofs.YtfihbohdhcidbaaDoor.QSnpB
end

section
/- What a reader reads, thing by thing: each way to read answers always; of a thing's own bytes it reads that thing, and what stands behind them stays; and what it has read are that thing's bytes. -/
namespace Go.Proofs.YtfihbohdhcidbaaDoor.QSnpB
open Go.RowKit Go.Proofs.YtfihbohdhcidbaaDoorW.PrintWords Go.Proofs.YtfihbohdhcidbaaDoorW.PrintLast Go.Proofs.YtfihbohdhcidbaaDoorW.PrintMore
set_option linter.unusedVariables false

theorem num_step (acc c : Int) (h0 : 0 ≤ acc) (h1 : acc < 1099511627776) (hc0 : 0 ≤ c) (hc1 : c < 256) : Go.bits .or .i64 (wrap64 (acc * 256)) (wrap64 c) = acc * 256 + c := by
  have e1 : wrap64 (acc * 256) = acc * 256 := by unfold wrap64; omega
  have e2 : wrap64 c = c := by unfold wrap64; omega
  rw [e1, e2]
  exact bits_join .i64 63 (by decide) (fun n h0 h1 => by rw [i64_w]; unfold wrap64; omega) 8 _ _ (by omega) (by omega) (by omega) hc0 (by omega) (by omega)
theorem rbytes_err (s : ByteArray) (e a : Int) (he : e ≠ 0) : num_Reader_Bytes.f s e a = some ((⟨#[]⟩ : ByteArray), s, e) := by
  unfold num_Reader_Bytes.f
  by_cases h : a < 0
  · rw [if_pos h, fail_told, if_neg he]
    simp only [Option.bind_some]
    rw [if_neg he]
  · rw [if_neg h]
    simp only [num_Reader_Left.f, Option.bind_some]
    by_cases h2 : a > (s.size : Int)
    · rw [if_pos h2, fail_told, if_neg he]
      simp only [Option.bind_some]
      rw [if_neg he]
    · rw [if_neg h2, if_neg he]
theorem rbytes_ok (s : ByteArray) (a : Nat) (h : a ≤ s.size) : num_Reader_Bytes.f s 0 a = some (s.extract 0 a, s.extract a s.size, 0) := by
  unfold num_Reader_Bytes.f
  rw [if_neg (by omega)]
  simp only [num_Reader_Left.f, Option.bind_some]
  rw [if_neg (by omega)]
  simp only [if_true]
  rw [if_pos (by omega), if_pos (by omega)]
  simp
theorem rbytes_end (s : ByteArray) (a : Nat) (h : s.size < a) : num_Reader_Bytes.f s 0 a = some ((⟨#[]⟩ : ByteArray), s, 10) := by
  unfold num_Reader_Bytes.f
  rw [if_neg (by omega)]
  simp only [num_Reader_Left.f, Option.bind_some]
  rw [if_pos (by omega), fail_told, if_pos rfl]
  simp only [Option.bind_some]
  rw [if_neg (by decide)]
theorem rfixed_err (s : ByteArray) (e a : Int) (he : e ≠ 0) : num_Reader_Fixed.f s e a = some (0, s, e) := by
  unfold num_Reader_Fixed.f
  have h1 : (if a < 1 ∨ a > 7 then num_Reader_Fail.f s e 1 else some (s, e)) = some (s, e) := by
    rw [fail_told, if_neg he]; split <;> rfl
  rw [h1]
  simp only [Option.bind_some]
  rw [rbytes_err s e a he]
  rfl
theorem ext_take (s : ByteArray) (a : Nat) : bytesOf (s.extract 0 a) = (bytesOf s).take a := by rw [bytesOf_extract]; simp
theorem ext_drop (s : ByteArray) (a : Nat) : bytesOf (s.extract a s.size) = (bytesOf s).drop a := by
  rw [bytesOf_extract, List.take_of_length_le]
  rw [List.length_drop, bytesOf_size]
  exact Nat.le_refl _
theorem short_ok {k : Nat} (hk : 11 ≤ k) (x : Nat) (most : Int) (h : x < 9223372036854775808) (hm : (x : Int) ≤ most) (s : ByteArray) (more : List Int) (hs : bytesOf s = encS x ++ more) :
    ∃ s', num_Reader_Short.f k s 0 most = some ((x : Int), s', 0) ∧ bytesOf s' = more := by
  have hl := encS_len9 h
  have hsz : s.size = (encS x).length + more.length := by rw [size_eq, hs, List.length_append]
  refine ⟨s.extract (encS x).length s.size, ?_, by rw [ext_drop, hs, List.drop_left]⟩
  refine rshort_ok hk s most x _ ?_ hm (by omega)
  rw [hs, List.take_append, List.take_of_length_le hl, decGo_enc _ _ _ _ _ (by omega)]
  simp
theorem text_ok {k : Nat} (hk : 11 ≤ k) (t : ByteArray) (most : Int) (h : t.size < 9223372036854775808) (hm : (t.size : Int) ≤ most) (s : ByteArray) (more : List Int) (hs : bytesOf s = (encS t.size ++ bytesOf t) ++ more) :
    ∃ s', num_Reader_Text.f k s 0 most = some (t, s', 0) ∧ bytesOf s' = more := by
  obtain ⟨s1, h1, hb1⟩ := short_ok hk t.size most h hm s (bytesOf t ++ more) (by rw [hs, List.append_assoc])
  have hsz : s1.size = t.size + more.length := by rw [size_eq, hb1, List.length_append, bytesOf_size]
  refine ⟨s1.extract t.size s1.size, ?_, by rw [ext_drop, hb1, List.drop_left' (bytesOf_size t)]⟩
  unfold num_Reader_Text.f
  rw [h1]
  simp only [Option.bind_some]
  rw [rbytes_ok s1 t.size (by omega)]
  simp only [Option.bind_some, if_true]
  have : s1.extract 0 t.size = t := by
    apply bytesOf_inj
    rw [ext_take, hb1, List.take_left' (bytesOf_size t)]
  rw [this]

/-- One way to read: it answers always; a reader that has failed stays as it is; of a thing's own bytes; of what it has read. -/
structure Item {α : Type} (f : ByteArray → Int → Option (α × ByteArray × Int)) (enc : α → List Int) (ok : α → Prop) : Prop where
  tot : ∀ (s : ByteArray) (e : Int), ∃ v s' e', f s e = some (v, s', e') ∧ s'.size ≤ s.size ∧ (e ≠ 0 → e' = e)
  fwd : ∀ (v : α) (s : ByteArray) (rest : List Int), ok v → bytesOf s = enc v ++ rest → ∃ s', f s 0 = some (v, s', 0) ∧ bytesOf s' = rest
  bwd : ∀ (s : ByteArray) (v : α) (s' : ByteArray), f s 0 = some (v, s', 0) → ok v ∧ bytesOf s = enc v ++ bytesOf s'
/-- What is known of one reading. -/
theorem Item.step {α : Type} {f : ByteArray → Int → Option (α × ByteArray × Int)} {enc : α → List Int} {ok : α → Prop} (h : Item f enc ok) (s : ByteArray) (e : Int) :
    ∃ v s' e', f s e = some (v, s', e') ∧ s'.size ≤ s.size ∧ (e ≠ 0 → e' = e) ∧ (e' = 0 → e = 0 ∧ ok v ∧ bytesOf s = enc v ++ bytesOf s') := by
  obtain ⟨v, s', e', h1, h2, h3⟩ := h.tot s e
  refine ⟨v, s', e', h1, h2, h3, fun h0 => ?_⟩
  by_cases he : e = 0
  · subst he; subst h0
    exact ⟨rfl, h.bwd s v s' h1⟩
  · exact absurd ((h3 he).symm.trans h0) he

theorem size_drop (s : ByteArray) (j : Nat) : (s.extract j s.size).size ≤ s.size := by rw [ByteArray.size_extract]; omega
theorem rshort_long {k : Nat} (hk : 11 ≤ k) (s : ByteArray) (most n : Int) (j : Int) (hd : decGo (if s.size < 9 then 10 else 3) ((bytesOf s).take 9) 0 0 = (n, j, 0)) (hn : n > most) :
    num_Reader_Short.f k s 0 most = some (0, s, 2) := by
  obtain ⟨k, rfl⟩ : ∃ m, k = m + 1 := ⟨k - 1, by omega⟩
  unfold num_Reader_Short.f
  rw [dec_told (by omega), hd]
  simp only [Option.bind_some, if_true]
  rw [decide_eq_true hn]
  simp only [num_Reader_Short.j0, fail_told]
  rw [if_pos trivial, if_pos trivial]
  simp only [Option.bind_some]
  rw [if_neg (by decide)]
theorem take_bytes8 (s : ByteArray) (n : Nat) : Bytes8 ((bytesOf s).take n) := fun c hc => bytes8_bytesOf s c (List.mem_of_mem_take hc)
theorem ite_ne (c : Prop) [Decidable c] : (if c then (10 : Int) else 3) ≠ 0 := by split <;> decide
/-- What the bytes tell: nothing (with a code), or a number's own bytes. -/
theorem short_cases {k : Nat} (hk : 11 ≤ k) (s : ByteArray) (most : Int) :
    (∃ c : Int, c ≠ 0 ∧ num_Reader_Short.f k s 0 most = some (0, s, c)) ∨
    (∃ m len : Nat, encS m = (bytesOf s).take len ∧ len ≤ s.size ∧ (m : Int) ≤ most ∧ num_Reader_Short.f k s 0 most = some ((m : Int), s.extract len s.size, 0)) := by
  obtain ⟨n, j, c, hd⟩ : ∃ n j c, decGo (if s.size < 9 then 10 else 3) ((bytesOf s).take 9) 0 0 = (n, j, c) := ⟨_, _, _, rfl⟩
  by_cases hc : c = 0
  · subst hc
    by_cases hn : n > most
    · exact .inl ⟨2, by decide, rshort_long hk s most n j hd hn⟩
    · obtain ⟨m, len, h1, h2, h3, h4, _⟩ := decGo_ok (ite_ne _) _ _ _ _ _ (take_bytes8 s 9) hd
      have e1 : n = (m : Int) := by rw [h1]; simp
      have e2 : j = ((len : Nat) : Int) := by rw [h2]; simp
      subst e1 e2
      rw [List.length_take, bytesOf_size] at h4
      refine .inr ⟨m, len, ?_, by omega, by omega, rshort_ok hk s most _ len hd (by omega) (by omega)⟩
      rw [h3, List.take_take]
      congr 1
      omega
  · exact .inl ⟨c, hc, rshort_bad hk s most n j c hd hc⟩
theorem item_short {k : Nat} (hk : 11 ≤ k) (most : Int) (hm : most < 9223372036854775808) : Item (fun s e => num_Reader_Short.f k s e most) (fun v => encS v.toNat) (fun v => 0 ≤ v ∧ v ≤ most) where
  tot := by
    intro s e
    by_cases he : e = 0
    · subst he
      rcases short_cases hk s most with ⟨c, hc, h⟩ | ⟨m, len, h1, h2, h3, h⟩
      · exact ⟨_, _, _, h, Nat.le_refl _, fun h => absurd rfl h⟩
      · exact ⟨_, _, _, h, size_drop _ _, fun h => absurd rfl h⟩
    · exact ⟨_, _, _, rshort_err hk s e most he, Nat.le_refl _, fun _ => rfl⟩
  fwd := by
    intro v s rest hv hs
    obtain ⟨x, hx⟩ := Int.eq_ofNat_of_zero_le hv.1
    subst hx
    exact short_ok hk x most (by omega) hv.2 s rest hs
  bwd := by
    intro s v s' h
    rcases short_cases hk s most with ⟨c, hc, h'⟩ | ⟨m, len, h1, h2, h3, h'⟩
    · have h : num_Reader_Short.f k s 0 most = some (v, s', 0) := h
      rw [h'] at h
      simp only [Option.some.injEq, Prod.mk.injEq] at h
      exact absurd h.2.2 hc
    · have h : num_Reader_Short.f k s 0 most = some (v, s', 0) := h
      rw [h'] at h
      simp only [Option.some.injEq, Prod.mk.injEq] at h
      obtain ⟨rfl, rfl, _⟩ := h
      refine ⟨⟨by omega, h3⟩, ?_⟩
      show bytesOf s = encS (m : Int).toNat ++ _
      rw [Int.toNat_natCast, h1, ext_drop, List.take_append_drop]
theorem item_bytes (n : Nat) : Item (fun s e => num_Reader_Bytes.f s e (n : Int)) bytesOf (fun b => b.size = n) where
  tot := by
    intro s e
    by_cases he : e = 0
    · subst he
      by_cases h : n ≤ s.size
      · exact ⟨_, _, _, rbytes_ok s n h, size_drop _ _, fun h => absurd rfl h⟩
      · exact ⟨_, _, _, rbytes_end s n (by omega), Nat.le_refl _, fun h => absurd rfl h⟩
    · exact ⟨_, _, _, rbytes_err s e n he, Nat.le_refl _, fun _ => rfl⟩
  fwd := by
    intro v s rest hv hs
    have hz : s.size = v.size + rest.length := by rw [size_eq, hs, List.length_append, bytesOf_size]
    refine ⟨s.extract n s.size, ?_, by rw [ext_drop, hs, List.drop_left' (by rw [bytesOf_size]; exact hv)]⟩
    have h := rbytes_ok s n (by omega)
    have e1 : s.extract 0 n = v := bytesOf_inj (by rw [ext_take, hs, List.take_left' (by rw [bytesOf_size]; exact hv)])
    rw [e1] at h
    exact h
  bwd := by
    intro s v s' h
    have h : num_Reader_Bytes.f s 0 (n : Int) = some (v, s', 0) := h
    by_cases hn : n ≤ s.size
    · rw [rbytes_ok s n hn] at h
      simp only [Option.some.injEq, Prod.mk.injEq] at h
      obtain ⟨rfl, rfl, _⟩ := h
      exact ⟨by rw [ByteArray.size_extract]; omega, by rw [ext_take, ext_drop, List.take_append_drop]⟩
    · rw [rbytes_end s n (by omega)] at h
      simp only [Option.some.injEq, Prod.mk.injEq] at h
      exact absurd h.2.2 (by decide)
/-- One byte. -/
theorem fixed1_of (s s' b : ByteArray) (e : Int) (x : Int) (h : num_Reader_Bytes.f s 0 ((1 : Nat) : Int) = some (b, s', e)) (hb : bytesOf b = [x]) (h0 : 0 ≤ x) (h1 : x < 256) :
    num_Reader_Fixed.f s 0 1 = some (x, s', e) := by
  have hz : b.size = 1 := by rw [size_eq, hb]; rfl
  unfold num_Reader_Fixed.f
  rw [if_neg (by decide)]
  simp only [Option.bind_some]
  rw [show num_Reader_Bytes.f s 0 1 = some (b, s', e) from h]
  simp only [Option.bind_some]
  rw [if_pos (by omega), hb]
  have := num_step 0 x (by decide) (by decide) h0 h1
  show some (num_Reader_Fixed.num [x], s', e) = _
  unfold num_Reader_Fixed.num
  rw [List.foldl_cons, List.foldl_nil, this, Int.zero_mul, Int.zero_add]
theorem fixed1_end (s : ByteArray) (h : s.size = 0) : num_Reader_Fixed.f s 0 1 = some (0, s, 10) := by
  unfold num_Reader_Fixed.f
  rw [if_neg (by decide)]
  simp only [Option.bind_some]
  rw [show num_Reader_Bytes.f s 0 1 = _ from rbytes_end s 1 (by omega)]
  rfl
theorem one_byte (b : ByteArray) (h : b.size = 1) : ∃ x, bytesOf b = [x] ∧ 0 ≤ x ∧ x < 256 := by
  have h1 : (bytesOf b).length = 1 := by rw [bytesOf_size]; exact h
  obtain ⟨x, hx⟩ := List.length_eq_one_iff.1 h1
  have := bytes8_bytesOf b x (by rw [hx]; exact List.mem_singleton.2 rfl)
  exact ⟨x, hx, this.1, this.2⟩
theorem item_fixed1 : Item (fun s e => num_Reader_Fixed.f s e 1) (fun v => [v]) (fun v => 0 ≤ v ∧ v < 256) where
  tot := by
    intro s e
    by_cases he : e = 0
    · subst he
      by_cases h : 1 ≤ s.size
      · obtain ⟨x, hx, x0, x1⟩ := one_byte (s.extract 0 1) (by rw [ByteArray.size_extract]; omega)
        exact ⟨_, _, _, fixed1_of s _ _ 0 x (rbytes_ok s 1 h) hx x0 x1, size_drop _ _, fun h => absurd rfl h⟩
      · exact ⟨_, _, _, fixed1_end s (by omega), Nat.le_refl _, fun h => absurd rfl h⟩
    · exact ⟨_, _, _, rfixed_err s e 1 he, Nat.le_refl _, fun _ => rfl⟩
  fwd := by
    intro v s rest hv hs
    have hz : s.size = 1 + rest.length := by rw [size_eq, hs, List.length_append]; rfl
    have e1 : bytesOf (s.extract 0 1) = [v] := by rw [ext_take, hs]; rfl
    exact ⟨s.extract 1 s.size, fixed1_of s _ _ 0 v (rbytes_ok s 1 (by omega)) e1 hv.1 hv.2, by rw [ext_drop, hs]; rfl⟩
  bwd := by
    intro s v s' h
    have h : num_Reader_Fixed.f s 0 1 = some (v, s', 0) := h
    by_cases hn : 1 ≤ s.size
    · obtain ⟨x, hx, x0, x1⟩ := one_byte (s.extract 0 1) (by rw [ByteArray.size_extract]; omega)
      rw [fixed1_of s _ _ 0 x (rbytes_ok s 1 hn) hx x0 x1] at h
      simp only [Option.some.injEq, Prod.mk.injEq] at h
      obtain ⟨rfl, rfl, _⟩ := h
      refine ⟨⟨x0, x1⟩, ?_⟩
      rw [ext_drop, ← hx, ext_take, List.take_append_drop]
    · rw [fixed1_end s (by omega)] at h
      simp only [Option.some.injEq, Prod.mk.injEq] at h
      exact absurd h.2.2 (by decide)
theorem item_text {k : Nat} (hk : 11 ≤ k) (most : Int) (hm : most < 9223372036854775808) : Item (fun s e => num_Reader_Text.f k s e most) (fun t => encS t.size ++ bytesOf t) (fun t => (t.size : Int) ≤ most) where
  tot := by
    intro s e
    obtain ⟨v, s1, e1, h1, h2, h3⟩ := (item_short hk most hm).tot s e
    have h1 : num_Reader_Short.f k s e most = some (v, s1, e1) := h1
    have hu : num_Reader_Text.f k s e most = (num_Reader_Bytes.f s1 e1 v).bind fun b => if b.2.2 = 0 then some (b.1, b.2.1, b.2.2) else some (b.1, s, b.2.2) := by
      unfold num_Reader_Text.f; exact bnd h1
    have hv : ∃ b s2 e2, num_Reader_Bytes.f s1 e1 v = some (b, s2, e2) ∧ s2.size ≤ s1.size ∧ (e1 ≠ 0 → e2 = e1) := by
      by_cases he : e1 = 0
      · subst he
        by_cases h0 : e = 0
        · subst h0
          obtain ⟨w1, w2⟩ := ((item_short hk most hm).bwd s v s1 h1).1
          obtain ⟨x, hx⟩ := Int.eq_ofNat_of_zero_le w1
          subst hx
          exact (item_bytes x).tot s1 0
        · exact absurd (h3 h0) (fun h => h0 h.symm)
      · exact ⟨_, _, _, rbytes_err s1 e1 v he, Nat.le_refl _, fun _ => rfl⟩
    obtain ⟨b, s2, e2, g1, g2, g3⟩ := hv
    rw [bnd g1] at hu
    dsimp only at hu
    by_cases h0 : e2 = 0
    · rw [if_pos h0] at hu
      refine ⟨b, s2, e2, hu, Nat.le_trans g2 h2, fun he => ?_⟩
      rw [g3 (by rw [h3 he]; exact he), h3 he]
    · rw [if_neg h0] at hu
      refine ⟨b, s, e2, hu, Nat.le_refl _, fun he => ?_⟩
      rw [g3 (by rw [h3 he]; exact he), h3 he]
  fwd := fun v s rest hv hs => text_ok hk v most (by omega) hv s rest hs
  bwd := by
    intro s t s' h
    have h : num_Reader_Text.f k s 0 most = some (t, s', 0) := h
    obtain ⟨v, s1, e1, h1, h2, h3, h4⟩ := (item_short hk most hm).step s 0
    have h1 : num_Reader_Short.f k s 0 most = some (v, s1, e1) := h1
    have hu : num_Reader_Text.f k s 0 most = (num_Reader_Bytes.f s1 e1 v).bind fun b => if b.2.2 = 0 then some (b.1, b.2.1, b.2.2) else some (b.1, s, b.2.2) := by
      unfold num_Reader_Text.f; exact bnd h1
    by_cases he : e1 = 0
    · subst he
      obtain ⟨_, ⟨w1, w2⟩, w3⟩ := h4 rfl
      obtain ⟨x, hx⟩ := Int.eq_ofNat_of_zero_le w1
      subst hx
      obtain ⟨b, s2, e2, g1, g2, g3, g4⟩ := (item_bytes x).step s1 0
      rw [bnd g1] at hu
      dsimp only at hu
      by_cases h0 : e2 = 0
      · subst h0
        obtain ⟨_, gz, gb⟩ := g4 rfl
        rw [if_pos rfl, h] at hu
        simp only [Option.some.injEq, Prod.mk.injEq] at hu
        obtain ⟨rfl, rfl, _⟩ := hu
        refine ⟨by omega, ?_⟩
        rw [w3, gb, ← List.append_assoc, Int.toNat_natCast, gz]
      · rw [if_neg h0, h] at hu
        simp only [Option.some.injEq, Prod.mk.injEq] at hu
        exact absurd hu.2.2.symm h0
    · rw [bnd (rbytes_err s1 e1 v he)] at hu
      dsimp only at hu
      rw [if_neg he, h] at hu
      simp only [Option.some.injEq, Prod.mk.injEq] at hu
      exact absurd hu.2.2.symm he
end Go.Proofs.YtfihbohdhcidbaaDoor.QSnpB
end

section
/- What the printed functions of package path tell: their plain meaning. -/
namespace Go.Proofs.YtfihbohdhcidbaaDoor.QSnpB
open Go.RowKit Go.Proofs.YtfihbohdhcidbaaDoorW.PrintWords Go.Proofs.YtfihbohdhcidbaaDoorW.PrintLast
open Go Go.Proofs.YtfihbohdhcidbaaDoor.PathOrd
theorem nil_iff (a : ByteArray) : a.toList = ([] : List UInt8) ↔ a.data.toList = [] := by
  rw [show a.toList = a.data.toList from ByteArray.toList_eq a]
theorem split_told (a : ByteArray) (h : a.size ≤ 2000000) (hn : a.data.toList ≠ []) : strings_Split.f a ⟨#[47]⟩ = some (parts a) := by
  unfold strings_Split.f
  have h1 : 1 ≤ (⟨#[47]⟩ : ByteArray).size := by decide
  have h2 := Lib.countB_le ⟨#[47]⟩ h1 a.size a (Nat.le_refl _)
  rw [if_pos ⟨by omega, h1, by omega, Lib.splitB_all _ h1 0 _ a rfl⟩, splitB_parts a hn]
theorem parts_told (a : ByteArray) (h : a.size ≤ 2000000) : path_parts.f a = some (parts a) := by
  unfold path_parts.f
  by_cases hn : a.data.toList = []
  · rw [if_pos ((nil_iff a).2 hn)]
    unfold parts
    rw [if_pos hn]
  · rw [if_neg (fun e => hn ((nil_iff a).1 e)), split_told a h hn]
    rfl
theorem spl_len : ∀ l : List UInt8, (spl l).length ≤ l.length + 1
  | [] => by simp [spl]
  | c :: l => by
    have := spl_len l
    simp only [spl]
    split
    · simp only [List.length_cons]; omega
    · split
      · simp
      · rename_i e; rw [e] at this; simp only [List.length_cons] at this ⊢; omega
theorem parts_len (a : ByteArray) : (parts a).length ≤ a.size + 1 := by
  unfold parts
  split
  · simp
  · rw [List.length_map]; exact spl_len _
end Go.Proofs.YtfihbohdhcidbaaDoor.QSnpB
end

section
/- The order of two paths, as it is printed: its plain meaning. -/
namespace Go.Proofs.YtfihbohdhcidbaaDoor.QSnpB
open Go.RowKit Go.Proofs.YtfihbohdhcidbaaDoorW.PrintWords Go.Proofs.YtfihbohdhcidbaaDoorW.PrintLast
open Go Go.Proofs.YtfihbohdhcidbaaDoor.PathOrd
theorem compare_l (X Y : List ByteArray) (hX : X.length ≤ 4294967296) : ∀ (k : Nat) (i : Nat), i ≤ X.length → i ≤ Y.length → X.length - i < k → slices_Compare_string_string.l0 k X Y X (X.length : Int) (i : Int) = some (cmpL (X.drop i) (Y.drop i))
  | 0, _, _, _, h => by omega
  | k + 1, i, hi, hj, h => by
    unfold slices_Compare_string_string.l0
    by_cases hx : i < X.length
    · rw [if_pos (by omega), if_pos (by omega), if_pos (by omega)]
      rw [List.drop_eq_getElem_cons hx]
      by_cases hy : i < Y.length
      · rw [if_neg (by omega), if_pos (by omega)]
        rw [List.drop_eq_getElem_cons hy]
        have ex : rdOf ByteArray.empty X (i : Int) = X[i] := by simp [rdOf, List.getD_eq_getElem?_getD, hx]
        have ey : rdOf ByteArray.empty Y (i : Int) = Y[i] := by simp [rdOf, List.getD_eq_getElem?_getD, hy]
        rw [ex, ey]
        unfold cmp_Compare_string.f
        simp only [Option.bind_some, cmpL]
        by_cases e : cmpT X[i] Y[i] = 0
        · rw [if_pos e, if_pos e]
          rw [show wrap64 ((i : Int) + 1) = ((i + 1 : Nat) : Int) by unfold wrap64; omega]
          exact compare_l X Y hX k (i + 1) (by omega) (by omega) (by omega)
        · rw [if_neg e, if_neg e]
      · rw [if_pos (by omega)]
        have : Y.drop i = [] := List.drop_eq_nil_of_le (by omega)
        rw [this]
        rfl
    · rw [if_neg (by omega)]
      have : X.drop i = [] := List.drop_eq_nil_of_le (by omega)
      rw [this]
      by_cases hy : i < Y.length
      · rw [if_pos (by omega), List.drop_eq_getElem_cons hy]
        rfl
      · rw [if_neg (by omega), List.drop_eq_nil_of_le (by omega)]
        rfl
theorem compare_told (k : Nat) (X Y : List ByteArray) (hX : X.length ≤ 4294967296) (hk : X.length < k) : slices_Compare_string_string.f k X Y = some (cmpL X Y) := by
  have h := compare_l X Y hX k 0 (Nat.zero_le _) (Nat.zero_le _) (by omega)
  simpa [slices_Compare_string_string.f] using h
theorem less_told (k : Nat) (a b : ByteArray) (ha : a.size ≤ 2000000) (hb : b.size ≤ 2000000) (hk : a.size + 1 < k) : path_Less.f k a b = some (decide (cmpL (parts a) (parts b) < 0)) := by
  unfold path_Less.f
  have := parts_len a
  rw [parts_told a ha, parts_told b hb]
  simp only [Option.bind_some]
  rw [compare_told k _ _ (by omega) (by omega)]
  rfl
end Go.Proofs.YtfihbohdhcidbaaDoor.QSnpB
end

section
/- What package path tells of names, and of what is a path. -/
namespace Go.Proofs.YtfihbohdhcidbaaDoor.QSnpB
open Go.RowKit Go.Proofs.YtfihbohdhcidbaaDoorW.PrintWords Go.Proofs.YtfihbohdhcidbaaDoorW.PrintLast
open Go Go.Proofs.YtfihbohdhcidbaaDoor.PathOrd
theorem isName_told (k : Nat) (a : ByteArray) : path_IsName.f (k + 1) a = some (nameB a) := by
  have hl : ∀ l : List UInt8, (a.toList == l) = decide (a.data.toList = l) := fun l => by
    rw [show a.toList = a.data.toList from ByteArray.toList_eq a]
    by_cases e : a.data.toList = l
    · rw [decide_eq_true e, beq_iff_eq]; exact e
    · rw [decide_eq_false e, beq_eq_false_iff_ne]; exact e
  have he : a.toList = a.data.toList := ByteArray.toList_eq a
  unfold path_IsName.f
  have j : ∀ b : Bool, path_IsName.j0 (k + 1) a b = some (!b && decide (a.size ≤ 64 ∧ Lib.indexByte a.data.toList 0 < 0 ∧ Lib.indexByte a.data.toList 47 < 0)) := fun b => by
    unfold path_IsName.j0
    cases b with
    | true => rfl
    | false =>
      dsimp only
      rw [if_neg (by simp)]
      by_cases h1 : (a.size : Int) ≤ 64
      · rw [if_pos h1]
        have h1' : a.size ≤ 64 := by omega
        simp only [strings_IndexByte.f, Option.bind_some]
        rw [show ((0 : Int).toNat.toUInt8) = 0 from rfl]
        by_cases h2 : Lib.indexByte a.data.toList 0 < 0
        · rw [if_pos h2]
          simp only [strings_Contains.f]
          rw [if_pos (by decide)]
          simp only [Option.bind_some]
          rw [show ((⟨#[47]⟩ : ByteArray).data.toList.getD 0 0) = 47 from rfl]
          by_cases h3 : Lib.indexByte a.data.toList 47 < 0
          · rw [decide_eq_false (show ¬ (0 : Int) ≤ Lib.indexByte a.data.toList 47 by omega), decide_eq_true ⟨h1', h2, h3⟩]
            rfl
          · rw [decide_eq_true (show (0 : Int) ≤ Lib.indexByte a.data.toList 47 by omega), decide_eq_false (fun h => h3 h.2.2)]
            rfl
        · rw [if_neg h2, decide_eq_false (fun h => h2 h.2.1)]
          rfl
      · rw [if_neg h1, decide_eq_false (fun h => h1 (by omega))]
        rfl
  rw [j, j, j, hl, hl, hl, he]
  unfold nameB
  by_cases e1 : a.data.toList = []
  · rw [if_pos e1]; simp [e1]
  rw [if_neg e1]
  by_cases e2 : a.data.toList = [46]
  · rw [if_pos e2]; simp [e2]
  rw [if_neg e2]
  by_cases e3 : a.data.toList = [46, 46]
  · simp [e3]
  · simp [e1, e2, e3]
theorem is_l (L : List ByteArray) (hL : L.length ≤ 4294967296) : ∀ (k i : Nat) (acc : Int), i ≤ L.length → 0 ≤ acc → acc ≤ 65 * (i : Int) → L.length - i + 1 < k →
    path_is.l0 k L acc L (L.length : Int) (i : Int) = some ((L.drop i).all nameB && decide (0 < L.length ∧ L.length ≤ 4096 ∧ acc + (total (L.drop i) : Int) - 1 ≤ 65536))
  | 0, _, _, _, _, _, h => by omega
  | k + 1, i, acc, hi, h0, ha, h => by
    unfold path_is.l0
    by_cases hx : i < L.length
    · rw [if_pos (by omega), if_pos (by omega), if_pos (by omega)]
      have ex : rdOf ByteArray.empty L (i : Int) = L[i] := by simp [rdOf, List.getD_eq_getElem?_getD, hx]
      rw [ex, List.drop_eq_getElem_cons hx]
      obtain ⟨m, rfl⟩ : ∃ m, k = m + 1 := ⟨k - 1, by omega⟩
      rw [isName_told m]
      simp only [Option.bind_some, List.all_cons]
      by_cases hn : nameB L[i] = true
      · rw [if_pos hn, hn, Bool.true_and]
        have hs := nameB_size hn
        rw [show wrap64 ((i : Int) + 1) = ((i + 1 : Nat) : Int) by unfold wrap64; omega, show wrap64 (acc + wrap64 ((L[i].size : Int) + 1)) = acc + ((L[i].size : Int) + 1) by unfold wrap64; omega]
        rw [is_l L hL (m + 1) (i + 1) _ (by omega) (by omega) (by omega) (by omega)]
        simp only [total]
        congr 2
        apply decide_eq_decide.2
        constructor
        · rintro ⟨a, b, c⟩; exact ⟨a, b, by omega⟩
        · rintro ⟨a, b, c⟩; exact ⟨a, b, by omega⟩
      · rw [if_neg hn]
        simp only [Bool.not_eq_true] at hn
        rw [hn]
        rfl
    · rw [if_neg (by omega)]
      have : L.drop i = [] := List.drop_eq_nil_of_le (by omega)
      rw [this]
      have ht : total ([] : List ByteArray) = 0 := rfl
      simp only [List.all_nil, Bool.true_and]
      rw [show wrap64 (acc - 1) = acc - 1 by unfold wrap64; omega]
      by_cases h1 : (L.length : Int) > 0
      · rw [if_pos h1]
        by_cases h2 : (L.length : Int) ≤ 4096
        · rw [if_pos h2]
          congr 1
          apply decide_eq_decide.2
          constructor
          · intro c; exact ⟨by omega, by omega, by omega⟩
          · rintro ⟨a, b, c⟩; omega
        · rw [if_neg h2, decide_eq_false (fun h => h2 (by omega))]
      · rw [if_neg h1, decide_eq_false (fun h => h1 (by omega))]
theorem is_told (k : Nat) (L : List ByteArray) (hL : L.length ≤ 4294967296) (hk : L.length + 1 < k) : path_is.f k L = some (isB L) := by
  have h := is_l L hL k 0 0 (Nat.zero_le _) (by omega) (by omega) (by omega)
  unfold path_is.f
  rw [show ((0 : Nat) : Int) = 0 from rfl] at h
  rw [h]
  simp [isB]
theorem splitf_told (k : Nat) (p : ByteArray) (hp : p.size ≤ 2000000) (hk : p.size + 2 < k) : path_Split.f k p = some (if isB (parts p) = true then (parts p, 0) else ([], 170)) := by
  have := parts_len p
  unfold path_Split.f
  rw [parts_told p hp]
  simp only [Option.bind_some]
  rw [is_told k _ (by omega) (by omega)]
  simp only [Option.bind_some]
  cases isB (parts p) <;> rfl
end Go.Proofs.YtfihbohdhcidbaaDoor.QSnpB
end

section
/- Which snapshots may be, as it is printed: its plain meaning. -/
namespace Go.Proofs.YtfihbohdhcidbaaDoor.QSnpB
open Go.RowKit Go.Proofs.YtfihbohdhcidbaaDoorW.PrintWords Go.Proofs.YtfihbohdhcidbaaDoorW.PrintLast
open Go Go.Proofs.YtfihbohdhcidbaaDoor.PathOrd
set_option linter.unusedVariables false
def wordB (s : ByteArray) (n : Int) : Bool := snap_word.vis s.data.toList && (decide (s.data.toList ≠ []) && decide ((s.size : Int) ≤ n))
theorem word_told (s : ByteArray) (n : Int) (h : s.size ≤ 140737488351232) : snap_word.f s n = some (wordB s n) := by
  unfold snap_word.f wordB
  rw [if_pos h]
/-- The members from the last d on. -/
def goB (R : ByteArray → Bool) (L : ByteArray → ByteArray → Bool) (l : List ByteArray) : Nat → Bool
  | 0 => true
  | d + 1 => R (l.getD (l.length - (d + 1)) ByteArray.empty) && ((decide (l.length - (d + 1) = 0) || L (l.getD (l.length - (d + 1) - 1) ByteArray.empty) (l.getD (l.length - (d + 1)) ByteArray.empty)) && goB R L l d)
def risB (R : ByteArray → Bool) (L : ByteArray → ByteArray → Bool) (l : List ByteArray) : Bool := decide (l.length ≤ 64) && goB R L l l.length
theorem goB_told {R : ByteArray → Option Bool} {L : ByteArray → ByteArray → Option Bool} {Rb : ByteArray → Bool} {Lb : ByteArray → ByteArray → Bool} (l : List ByteArray) (hR : ∀ x ∈ l, R x = some (Rb x)) (hL : ∀ x ∈ l, ∀ y ∈ l, L x y = some (Lb x y)) :
    ∀ d, d ≤ l.length → snap_rises_string.go R L l d = some (goB Rb Lb l d)
  | 0, _ => rfl
  | d + 1, hd => by
    have ih := goB_told l hR hL d (by omega)
    have hm : ∀ j, j < l.length → l.getD j ByteArray.empty ∈ l := fun j hj => by rw [List.getD_eq_getElem?_getD, List.getElem?_eq_getElem hj]; exact List.getElem_mem hj
    unfold snap_rises_string.go goB
    rw [hR _ (hm _ (by omega)), Option.bind_some]
    cases h1 : Rb (l.getD (l.length - (d + 1)) ByteArray.empty) with
    | false => rw [if_neg (by decide)]; rfl
    | true =>
      rw [if_pos rfl]
      by_cases h0 : l.length - (d + 1) = 0
      · rw [if_pos h0, ih, decide_eq_true h0]; simp
      · rw [if_neg h0, hL _ (hm _ (by omega)) _ (hm _ (by omega)), Option.bind_some, decide_eq_false h0]
        cases h2 : Lb (l.getD (l.length - (d + 1) - 1) ByteArray.empty) (l.getD (l.length - (d + 1)) ByteArray.empty) with
        | false => rw [if_neg (by decide)]; rfl
        | true => rw [if_pos rfl, ih]; simp
theorem risB_told {R : ByteArray → Option Bool} {L : ByteArray → ByteArray → Option Bool} {Rb : ByteArray → Bool} {Lb : ByteArray → ByteArray → Bool} (l : List ByteArray) (hR : ∀ x ∈ l, R x = some (Rb x)) (hL : ∀ x ∈ l, ∀ y ∈ l, L x y = some (Lb x y)) :
    snap_rises_string.ris R L l = some (risB Rb Lb l) := by
  unfold snap_rises_string.ris risB
  by_cases h : 64 < l.length
  · rw [if_pos h, decide_eq_false (by omega)]; rfl
  · rw [if_neg h, decide_eq_true (by omega), goB_told l hR hL _ (Nat.le_refl _), Bool.true_and]
theorem goB_all {R : ByteArray → Bool} {L : ByteArray → ByteArray → Bool} {l : List ByteArray} : ∀ d, d ≤ l.length → goB R L l d = true → ∀ j, l.length - d ≤ j → j < l.length → R (l.getD j ByteArray.empty) = true
  | 0, _, _, j, h1, h2 => by omega
  | d + 1, hd, h, j, h1, h2 => by
    simp only [goB, Bool.and_eq_true] at h
    by_cases e : j = l.length - (d + 1)
    · rw [e]; exact h.1
    · exact goB_all d (by omega) h.2.2 j (by omega) h2
theorem risB_all {R : ByteArray → Bool} {L : ByteArray → ByteArray → Bool} {l : List ByteArray} (h : risB R L l = true) : l.length ≤ 64 ∧ ∀ x ∈ l, R x = true := by
  simp only [risB, Bool.and_eq_true, decide_eq_true_eq] at h
  refine ⟨h.1, fun x hx => ?_⟩
  obtain ⟨j, hj, rfl⟩ := List.getElem_of_mem hx
  have := goB_all l.length (Nat.le_refl _) h.2 j (by omega) hj
  rwa [List.getD_eq_getElem?_getD, List.getElem?_eq_getElem hj] at this
def pathB (x : ByteArray) : Bool := isB (parts x)
theorem isPath_told (k : Nat) (x : ByteArray) (h : x.size ≤ 2000000) (hk : x.size + 2 < k) : snap_isPath.f k x = some (pathB x) := by
  unfold snap_isPath.f
  rw [splitf_told k x h hk, Option.bind_some]
  unfold pathB
  cases isB (parts x) <;> rfl
theorem isTag_told (x : ByteArray) (h : x.size ≤ 140737488351232) : snap_isTag.f x = some (wordB x 32) := by
  unfold snap_isTag.f
  rw [word_told x 32 h]
  rfl
theorem cless_told (x y : ByteArray) : cmp_Less_string.f x y = some (decide (cmpT x y < 0)) := by
  have h : ∀ z : ByteArray, cmp_isNaN_string.f z = some false := fun z => by unfold cmp_isNaN_string.f; simp
  unfold cmp_Less_string.f
  rw [h x, Option.bind_some, if_neg (by decide)]
  congr 1
  rw [ByteArray.toList_eq, ByteArray.toList_eq]
  cases e : Op.bytesLess x.data.toList y.data.toList with
  | true => exact (decide_eq_true (cmpT_neg.2 e)).symm
  | false => exact (decide_eq_false (fun h => by rw [cmpT_neg.1 h] at e; cases e)).symm
def pathsB (p : List ByteArray) : Bool := risB pathB (fun x y => decide (cmpL (parts x) (parts y) < 0)) p
def tagsB (g : List ByteArray) : Bool := risB (fun x => wordB x 32) (fun x y => decide (cmpT x y < 0)) g
theorem paths_told (k : Nat) (p : List ByteArray) (h : ∀ x ∈ p, x.size ≤ 1500000) (hk : 1500010 < k) : snap_rises_string.f k p 22 23 = some (pathsB p) := by
  unfold snap_rises_string.f
  rw [if_pos ⟨rfl, rfl⟩]
  exact risB_told p (fun x hx => isPath_told k x (by have := h x hx; omega) (by have := h x hx; omega)) (fun x hx y hy => less_told k x y (by have := h x hx; omega) (by have := h y hy; omega) (by have := h x hx; omega))
theorem tags_told (k : Nat) (g : List ByteArray) (h : ∀ x ∈ g, x.size ≤ 140737488351232) : snap_rises_string.f k g 24 25 = some (tagsB g) := by
  unfold snap_rises_string.f
  rw [if_neg (by decide), if_pos ⟨rfl, rfl⟩]
  exact risB_told g (fun x hx => isTag_told x (h x hx)) (fun x hx y hy => cless_told x y)
def chkB (t : Int) (h : ByteArray) (p g : List ByteArray) (r q : ByteArray) : Bool :=
  decide (0 ≤ t ∧ t ≤ 1099511627776) && (wordB h 64 && ((pathsB p && tagsB g) && (decide (r.size = 32) && (decide (q.data.toList = []) || decide (q.size = 32)))))
theorem isId_told (r : ByteArray) : sha_IsId.f r = some (decide (r.size = 32)) := by
  unfold sha_IsId.f
  by_cases e : r.size = 32
  · rw [decide_eq_true e, e]; rfl
  · rw [decide_eq_false e]
    congr 1
    rw [beq_eq_false_iff_ne]
    omega
theorem check_told (k : Nat) (t : Int) (h : ByteArray) (p g : List ByteArray) (r q : ByteArray) (hh : h.size ≤ 140737488351232) (hp : ∀ x ∈ p, x.size ≤ 1500000) (hg : ∀ x ∈ g, x.size ≤ 140737488351232) (hk : 1500020 < k) :
    snap_Check.f k t h p g r q = some (if chkB t h p g r q = true then 0 else 200) := by
  obtain ⟨k, rfl⟩ : ∃ m, k = m + 2 := ⟨k - 2, by omega⟩
  have j0 : ∀ b : Bool, snap_Check.j0 (k + 2) b t h p g r q = some (if (b && (wordB h 64 && ((pathsB p && tagsB g) && (decide (r.size = 32) && (decide (q.data.toList = []) || decide (q.size = 32)))))) = true then 0 else 200) := fun b => by
    have j1 : ∀ c : Bool, snap_Check.j1 (k + 1) b c t h p g r q = some (if (b && (wordB h 64 && (c && (decide (r.size = 32) && (decide (q.data.toList = []) || decide (q.size = 32)))))) = true then 0 else 200) := fun c => by
      rw [snap_Check.j1, isId_told r, isId_told q, word_told h 64 hh]
      simp only [Option.bind_some]
      by_cases e1 : r.size = 32
      · rw [decide_eq_true e1, if_pos rfl]
        by_cases e2 : q.data.toList = []
        · rw [if_pos (show q.toList = ([] : List UInt8) by rw [ByteArray.toList_eq]; exact e2), decide_eq_true e2]
          cases b <;> cases wordB h 64 <;> cases c <;> rfl
        · rw [if_neg (show ¬ q.toList = ([] : List UInt8) by rw [ByteArray.toList_eq]; exact e2), decide_eq_false e2]
          cases b <;> cases wordB h 64 <;> cases c <;> cases decide (q.size = 32) <;> rfl
      · rw [decide_eq_false e1, if_neg (by decide)]
        cases b <;> cases wordB h 64 <;> cases c <;> rfl
    rw [snap_Check.j0, paths_told (k + 1) p hp (by omega), Option.bind_some]
    cases e : pathsB p with
    | false => rw [if_neg (by decide), j1, Bool.false_and, Bool.false_and, Bool.false_and]
    | true => rw [if_pos rfl, tags_told (k + 1) g hg, Option.bind_some, j1, Bool.true_and]
  unfold snap_Check.f chkB
  have d : decide (0 ≤ t ∧ t ≤ 1099511627776) = (decide (0 ≤ t) && decide (t ≤ 1099511627776)) := by
    by_cases e : 0 ≤ t <;> by_cases e2 : t ≤ 1099511627776 <;> simp [e, e2]
  rw [d]
  by_cases e : 0 ≤ t
  · rw [if_pos e, j0, decide_eq_true e, Bool.true_and]
  · rw [if_neg e, j0, decide_eq_false e, Bool.false_and, Bool.false_and, Bool.false_and]
theorem chk_parts {t : Int} {h : ByteArray} {p g : List ByteArray} {r q : ByteArray} (hc : chkB t h p g r q = true) : (0 ≤ t ∧ t ≤ 1099511627776) ∧ wordB h 64 = true ∧ pathsB p = true ∧ tagsB g = true ∧ r.size = 32 ∧ (q.data.toList = [] ∨ q.size = 32) := by
  simp only [chkB, Bool.and_eq_true, Bool.or_eq_true, decide_eq_true_eq] at hc
  exact ⟨hc.1, hc.2.1, hc.2.2.1.1, hc.2.2.1.2, hc.2.2.2.1, hc.2.2.2.2⟩
end Go.Proofs.YtfihbohdhcidbaaDoor.QSnpB
end

section
/- Lists of texts as bytes, written and read; and a beginning that is cut off: plain. -/
namespace Go.Proofs.YtfihbohdhcidbaaDoor.QSnpB
open Go.RowKit Go.Proofs.YtfihbohdhcidbaaDoorW.PrintWords Go.Proofs.YtfihbohdhcidbaaDoorW.PrintLast
open Go Go.Proofs.YtfihbohdhcidbaaDoor.PathOrd
set_option linter.unusedVariables false
def tEnc (y : ByteArray) : List Int := encS y.size ++ bytesOf y
def lEnc (l : List ByteArray) : List Int := encS l.length ++ l.flatMap tEnc
theorem tEnc_len (y : ByteArray) (h : y.size < 9223372036854775808) : (tEnc y).length ≤ y.size + 9 := by
  have := encS_len9 h
  unfold tEnc
  rw [List.length_append, bytesOf_size]
  omega
theorem flat_len {l : List ByteArray} {c : Nat} (hc : c < 9223372036854775808) (h : ∀ y ∈ l, y.size ≤ c) : (l.flatMap tEnc).length ≤ l.length * (c + 9) := by
  induction l with
  | nil => simp
  | cons a l ih =>
    have h1 := tEnc_len a (by have := h a (by simp); omega)
    have h2 := h a (by simp)
    have h3 := ih (fun y hy => h y (by simp [hy]))
    rw [List.flatMap_cons, List.length_append, List.length_cons, Nat.succ_mul]
    omega
/-- What reads one after the other, as far as it is told by its own bytes. -/
theorem Item.uniq {α : Type} {f : ByteArray → Int → Option (α × ByteArray × Int)} {enc : α → List Int} {ok : α → Prop} (h : Item f enc ok) (s : ByteArray) {v w : α} {a b : List Int} (hv : ok v) (hw : ok w) (h1 : bytesOf s = enc v ++ a) (h2 : bytesOf s = enc w ++ b) :
    v = w ∧ a = b ∧ ∃ s', bytesOf s' = a := by
  obtain ⟨s1, e1, b1⟩ := h.fwd v s a hv h1
  obtain ⟨s2, e2, b2⟩ := h.fwd w s b hw h2
  rw [e1] at e2
  simp only [Option.some.injEq, Prod.mk.injEq] at e2
  obtain ⟨rfl, rfl, _⟩ := e2
  exact ⟨rfl, b1.symm.trans b2, s1, b1⟩
theorem snap_err (s : ByteArray) (e : Int) : num_Reader_Err.f s e = some (e, s, e) := rfl
theorem texts_l (most : Int) (hm : most < 9223372036854775808) (n : Nat) (hn : n ≤ 64) : ∀ (d i : Nat) (acc : List ByteArray) (s : ByteArray) (e : Int) (k : Nat), i + d = n → acc.length = i → d + 20 ≤ k →
    ∃ v s' e', snap_texts.l0 k most acc (n : Int) (i : Int) s e = some (v, s', e') ∧ s'.size ≤ s.size ∧ (e ≠ 0 → e' = e) ∧ (e' = 0 → e = 0 ∧ ∃ new, v = acc ++ new ∧ new.length = d ∧ (∀ y ∈ new, (y.size : Int) ≤ most) ∧ bytesOf s = new.flatMap tEnc ++ bytesOf s')
  | 0, i, acc, s, e, k, hi, ha, hk => by
    obtain ⟨k, rfl⟩ : ∃ q, k = q + 1 := ⟨k - 1, by omega⟩
    rw [snap_texts.l0, if_neg (by omega)]
    exact ⟨acc, s, e, rfl, Nat.le_refl _, fun _ => rfl, fun h => ⟨h, [], by simp, rfl, by simp, by simp⟩⟩
  | d + 1, i, acc, s, e, k, hi, ha, hk => by
    obtain ⟨k, rfl⟩ : ∃ q, k = q + 1 := ⟨k - 1, by omega⟩
    rw [snap_texts.l0, if_pos (by omega), bnd (snap_err s e)]
    dsimp only
    by_cases he : e = 0
    · subst he
      rw [if_pos rfl]
      obtain ⟨v1, s1, e1, h1, z1, p1, q1⟩ := (item_text (k := k) (by omega) most hm).step s 0
      have h1 : num_Reader_Text.f k s 0 most = some (v1, s1, e1) := h1
      rw [bnd h1]
      dsimp only
      rw [if_pos (by omega), show wrap64 ((i : Int) + 1) = ((i + 1 : Nat) : Int) by unfold wrap64; omega]
      obtain ⟨v, s', e', hr, hz, hp, hq⟩ := texts_l most hm n hn d (i + 1) (acc ++ [v1]) s1 e1 k (by omega) (by simp [ha]) (by omega)
      refine ⟨v, s', e', hr, by omega, fun h => absurd rfl h, fun h => ?_⟩
      obtain ⟨w1, new, w2, w3, w4, w5⟩ := hq h
      obtain ⟨_, u1, u2⟩ := q1 w1
      refine ⟨rfl, v1 :: new, by rw [w2]; simp, by simp [w3], fun y hy => ?_, ?_⟩
      · rcases List.mem_cons.1 hy with rfl | hy
        · exact u1
        · exact w4 y hy
      · rw [u2, w5, List.flatMap_cons, List.append_assoc (tEnc v1)]
        rfl
    · rw [if_neg he]
      exact ⟨[], s, e, rfl, Nat.le_refl _, fun _ => rfl, fun h => absurd h he⟩
theorem texts_fwd_l (most : Int) (hm : most < 9223372036854775808) (n : Nat) (hn : n ≤ 64) (rest : List Int) : ∀ (new acc : List ByteArray) (s : ByteArray) (k : Nat), acc.length + new.length = n → (∀ y ∈ new, (y.size : Int) ≤ most) → bytesOf s = new.flatMap tEnc ++ rest → new.length + 20 ≤ k →
    ∃ s', snap_texts.l0 k most acc (n : Int) (acc.length : Int) s 0 = some (acc ++ new, s', 0) ∧ bytesOf s' = rest
  | [], acc, s, k, hl, _, hs, hk => by
    obtain ⟨k, rfl⟩ : ∃ q, k = q + 1 := ⟨k - 1, by omega⟩
    rw [snap_texts.l0, if_neg (by simp at hl; omega)]
    exact ⟨s, by simp, by simpa using hs⟩
  | v :: new, acc, s, k, hl, ho, hs, hk => by
    obtain ⟨k, rfl⟩ : ∃ q, k = q + 1 := ⟨k - 1, by omega⟩
    simp only [List.length_cons] at hl hk
    rw [snap_texts.l0, if_pos (by omega), bnd (snap_err s 0)]
    dsimp only
    rw [if_pos rfl]
    obtain ⟨s1, h1, b1⟩ := (item_text (k := k) (by omega) most hm).fwd v s (new.flatMap tEnc ++ rest) (ho v (by simp)) (by rw [hs, List.flatMap_cons, List.append_assoc]; rfl)
    have h1 : num_Reader_Text.f k s 0 most = some (v, s1, 0) := h1
    rw [bnd h1]
    dsimp only
    rw [if_pos (by omega), show wrap64 ((acc.length : Int) + 1) = (((acc ++ [v]).length : Nat) : Int) by rw [List.length_append, List.length_singleton]; unfold wrap64; omega]
    obtain ⟨s', h2, b2⟩ := texts_fwd_l most hm n hn rest new (acc ++ [v]) s1 k (by simp; omega) (fun y hy => ho y (by simp [hy])) b1 (by omega)
    exact ⟨s', by rw [h2]; simp, b2⟩
theorem item_texts {k : Nat} (hk : 100 ≤ k) (most : Int) (hm : most < 9223372036854775808) : Item (fun s e => snap_texts.f k s e most) lEnc (fun l => l.length ≤ 64 ∧ ∀ y ∈ l, (y.size : Int) ≤ most) := by
  have key : ∀ (s : ByteArray) (e : Int), ∃ v s' e', snap_texts.f k s e most = some (v, s', e') ∧ s'.size ≤ s.size ∧ (e ≠ 0 → e' = e) ∧ (e' = 0 → e = 0 ∧ (v.length ≤ 64 ∧ ∀ y ∈ v, (y.size : Int) ≤ most) ∧ bytesOf s = lEnc v ++ bytesOf s') := by
    intro s e
    obtain ⟨n, s1, e1, h1, z1, p1, q1⟩ := (item_short (k := k) (by omega) 64 (by decide)).step s e
    have h1 : num_Reader_Short.f k s e 64 = some (n, s1, e1) := h1
    have hu : snap_texts.f k s e most = snap_texts.l0 k most [] n 0 s1 e1 := by unfold snap_texts.f; exact bnd h1
    rw [hu]
    by_cases he : e1 = 0
    · obtain ⟨e0, ⟨n0, n1⟩, hb⟩ := q1 he
      obtain ⟨m, rfl⟩ := Int.eq_ofNat_of_zero_le n0
      obtain ⟨v, s', e', hr, hz, hp, hq⟩ := texts_l most hm m (by omega) m 0 [] s1 e1 k (by omega) rfl (by omega)
      refine ⟨v, s', e', hr, by omega, fun h => absurd e0 h, fun h => ?_⟩
      obtain ⟨_, new, w2, w3, w4, w5⟩ := hq h
      rw [List.nil_append] at w2
      subst w2
      refine ⟨e0, ⟨by omega, w4⟩, ?_⟩
      rw [hb, w5]
      unfold lEnc
      rw [w3, List.append_assoc]
      rfl
    · refine ⟨[], s1, e1, ?_, z1, p1, fun h => absurd h he⟩
      obtain ⟨k, rfl⟩ : ∃ q, k = q + 1 := ⟨k - 1, by omega⟩
      rw [snap_texts.l0]
      by_cases hn : 0 < n
      · rw [if_pos hn, bnd (snap_err s1 e1)]
        dsimp only
        rw [if_neg he]
      · rw [if_neg hn]
  refine ⟨fun s e => ?_, fun v s rest hv hs => ?_, fun s v s' h => ?_⟩
  · obtain ⟨v, s', e', h1, h2, h3, _⟩ := key s e
    exact ⟨v, s', e', h1, h2, h3⟩
  · unfold lEnc at hs
    obtain ⟨s1, h1, b1⟩ := (item_short (k := k) (by omega) 64 (by decide)).fwd (v.length : Int) s (v.flatMap tEnc ++ rest) ⟨by omega, by have := hv.1; omega⟩ (by rw [hs, List.append_assoc]; rfl)
    have h1 : num_Reader_Short.f k s 0 64 = some ((v.length : Int), s1, 0) := h1
    obtain ⟨s', h2, b2⟩ := texts_fwd_l most hm v.length hv.1 rest v [] s1 k (by simp) hv.2 b1 (by have := hv.1; omega)
    refine ⟨s', ?_, b2⟩
    show snap_texts.f k s 0 most = _
    unfold snap_texts.f
    rw [bnd h1]
    exact h2
  · have h : snap_texts.f k s 0 most = some (v, s', 0) := h
    obtain ⟨v2, s2, e2, h1, _, _, h4⟩ := key s 0
    rw [h] at h1
    simp only [Option.some.injEq, Prod.mk.injEq] at h1
    obtain ⟨rfl, rfl, rfl⟩ := h1
    exact (h4 rfl).2
/-- A beginning, cut off. -/
theorem cutp_told (s pr : ByteArray) : (∃ r : ByteArray, bytesOf s = bytesOf pr ++ bytesOf r ∧ r.size ≤ s.size ∧ strings_CutPrefix.f s pr = some (r, true)) ∨ ((∀ r : List Int, bytesOf s ≠ bytesOf pr ++ r) ∧ strings_CutPrefix.f s pr = some (s, false)) := by
  unfold strings_CutPrefix.f stringslite_CutPrefix.f stringslite_HasPrefix.f
  by_cases h : pr.size ≤ s.size
  · rw [if_pos (by omega), if_pos (by omega), if_pos (by omega)]
    simp only [Option.bind_some, Int.toNat_natCast]
    by_cases e : s.extract 0 pr.size = pr
    · left
      rw [if_pos (by rw [e]; simp), if_pos (by omega), if_pos (by omega)]
      refine ⟨s.extract pr.size s.size, ?_, size_drop _ _, rfl⟩
      have hx : bytesOf pr = (bytesOf s).take pr.size := by rw [← ext_take, e]
      rw [hx, ext_drop, List.take_append_drop]
    · right
      refine ⟨fun r hr => e (bytesOf_inj ?_), ?_⟩
      · rw [ext_take, hr, List.take_left' (bytesOf_size pr)]
      · rw [if_neg]
        · rfl
        · rw [beq_iff_eq]
          exact fun x => e (toList_eq.1 x)
  · right
    refine ⟨fun r hr => h ?_, ?_⟩
    · rw [size_eq s, hr, List.length_append, bytesOf_size]; omega
    · rw [if_neg (by omega)]
      rfl
theorem sshort_told {k : Nat} (hk : 9 ≤ k) (x : Int) (h0 : 0 ≤ x) (h1 : x < 9223372036854775808) : ∃ b, snap_short.f k x = some b ∧ bytesOf b = encS x.toNat := by
  unfold snap_short.f
  rw [bnd (short_told hk x h0 h1)]
  exact ⟨_, rfl, bytesOf_strOfNums (encS_bytes _)⟩
theorem stext_told {k : Nat} (hk : 9 ≤ k) (s : ByteArray) (h1 : s.size < 9223372036854775000) : ∃ b, num_Text.f k s = some b ∧ bytesOf b = tEnc s := by
  refine ⟨_, text_told hk s h1, ?_⟩
  rw [bytesOf_append, bytesOf_strOfNums (encS_bytes _)]
  rfl
theorem list_l (l : List ByteArray) (hl : l.length ≤ 64) (hs : ∀ y ∈ l, y.size ≤ 65536) : ∀ (d i : Nat) (s : ByteArray) (k : Nat), i + d = l.length → s.size ≤ 100 + 70000 * i → d + 20 ≤ k →
    ∃ b, snap_list.l0 k s l (l.length : Int) (i : Int) = some b ∧ bytesOf b = bytesOf s ++ (l.drop i).flatMap tEnc
  | 0, i, s, k, hi, hz, hk => by
    obtain ⟨k, rfl⟩ : ∃ q, k = q + 1 := ⟨k - 1, by omega⟩
    rw [snap_list.l0, if_neg (by omega), List.drop_eq_nil_of_le (by omega)]
    exact ⟨s, rfl, by simp⟩
  | d + 1, i, s, k, hi, hz, hk => by
    obtain ⟨k, rfl⟩ : ∃ q, k = q + 1 := ⟨k - 1, by omega⟩
    have hlt : i < l.length := by omega
    have ex : rdOf ByteArray.empty l (i : Int) = l[i] := by simp [rdOf, List.getD_eq_getElem?_getD, hlt]
    have hy := hs l[i] (List.getElem_mem hlt)
    obtain ⟨t, h1, b1⟩ := stext_told (k := k) (by omega) l[i] (by omega)
    have hts : t.size ≤ 65545 := by
      have := tEnc_len l[i] (by omega)
      rw [size_eq, b1]
      omega
    rw [snap_list.l0, if_pos (by omega), if_pos (by omega), if_pos (by omega), ex, bnd h1, if_pos (by omega), show wrap64 ((i : Int) + 1) = ((i + 1 : Nat) : Int) by unfold wrap64; omega]
    obtain ⟨b, h2, b2⟩ := list_l l hl hs d (i + 1) (s ++ t) k (by omega) (by rw [ByteArray.size_append]; omega) (by omega)
    refine ⟨b, h2, ?_⟩
    rw [b2, bytesOf_append, b1, List.drop_eq_getElem_cons hlt, List.flatMap_cons, List.append_assoc]
theorem list_told {k : Nat} (hk : 200 ≤ k) (l : List ByteArray) (hl : l.length ≤ 64) (hs : ∀ y ∈ l, y.size ≤ 65536) : ∃ b, snap_list.f k l = some b ∧ bytesOf b = lEnc l := by
  unfold snap_list.f
  obtain ⟨b, h1, b1⟩ := sshort_told (k := k) (by omega) (l.length : Int) (by omega) (by omega)
  rw [bnd h1]
  have hz : b.size ≤ 9 := by rw [size_eq, b1]; exact encS_len9 (by omega)
  obtain ⟨c, h2, b2⟩ := list_l l hl hs l.length 0 b k (by omega) (by omega) (by omega)
  refine ⟨c, h2, ?_⟩
  rw [b2, b1]
  rfl
end Go.Proofs.YtfihbohdhcidbaaDoor.QSnpB
end

section
/- Snapshots as bytes, written and read, as it is printed: plain. -/
namespace Go.Proofs.YtfihbohdhcidbaaDoor.QSnpB
open Go.RowKit Go.Proofs.YtfihbohdhcidbaaDoorW.PrintWords Go.Proofs.YtfihbohdhcidbaaDoorW.PrintLast
open Go Go.Proofs.YtfihbohdhcidbaaDoor.PathOrd
set_option linter.unusedVariables false
def sHead : ByteArray := ⟨#[71, 82, 84, 83, 1]⟩
def sTail (q : ByteArray) : List Int := if q.data.toList = [] then [0] else 1 :: bytesOf q
def sEnc (t : Int) (h : ByteArray) (p g : List ByteArray) (r q : ByteArray) : List Int := bytesOf sHead ++ (encS t.toNat ++ (tEnc h ++ (lEnc p ++ (lEnc g ++ (bytesOf r ++ sTail q)))))
theorem path_size {x : ByteArray} (h : pathB x = true) : x.size ≤ 65536 := by
  have h1 : isB (parts x) = true := h
  have h2 := isB_ne h1
  have h3 := jn_total (parts x) (fun e => by rw [e] at h2; simp at h2)
  rw [jn_parts] at h3
  have h4 : x.data.toList.length = x.size := by simp
  simp only [isB, Bool.and_eq_true, decide_eq_true_eq] at h1
  omega
theorem word_size {s : ByteArray} {n : Int} (h : wordB s n = true) : (s.size : Int) ≤ n := by
  simp only [wordB, Bool.and_eq_true, decide_eq_true_eq] at h
  exact h.2.2
/-- What is known of a snapshot that may be. -/
structure SOk (t : Int) (h : ByteArray) (p g : List ByteArray) (r q : ByteArray) : Prop where
  t0 : 0 ≤ t
  t1 : t ≤ 1099511627776
  h1 : h.size ≤ 64
  p1 : p.length ≤ 64
  p2 : ∀ y ∈ p, y.size ≤ 65536
  g1 : g.length ≤ 64
  g2 : ∀ y ∈ g, y.size ≤ 32
  r1 : r.size = 32
  q1 : q.data.toList = [] ∨ q.size = 32
theorem sOk {t : Int} {h : ByteArray} {p g : List ByteArray} {r q : ByteArray} (hc : chkB t h p g r q = true) : SOk t h p g r q := by
  obtain ⟨⟨a1, a2⟩, a3, a4, a5, a6, a7⟩ := chk_parts hc
  obtain ⟨b1, b2⟩ := risB_all a4
  obtain ⟨c1, c2⟩ := risB_all a5
  exact ⟨a1, a2, by have := word_size a3; omega, b1, fun y hy => path_size (b2 y hy), c1, fun y hy => by have := word_size (c2 y hy); omega, a6, a7⟩
theorem nil_of {q : ByteArray} (h : q.data.toList = []) : q = ⟨#[]⟩ := eq_of_list h
theorem sTail_len {q : ByteArray} (h : q.data.toList = [] ∨ q.size = 32) : 1 ≤ (sTail q).length ∧ (sTail q).length ≤ 33 := by
  unfold sTail
  split
  · simp
  · rename_i e
    rcases h with h | h
    · exact absurd h e
    · rw [List.length_cons, bytesOf_size]; omega
theorem sEnc_len {t : Int} {h : ByteArray} {p g : List ByteArray} {r q : ByteArray} (o : SOk t h p g r q) : 5 ≤ (sEnc t h p g r q).length ∧ (sEnc t h p g r q).length ≤ 5000000 := by
  have a1 := encS_len9 (x := t.toNat) (by have := o.t0; have := o.t1; omega)
  have a2 := tEnc_len h (by have := o.h1; omega)
  have a3 := encS_len9 (x := p.length) (by have := o.p1; omega)
  have a4 := flat_len (c := 65536) (by omega) o.p2
  have a5 := encS_len9 (x := g.length) (by have := o.g1; omega)
  have a6 := flat_len (c := 32) (by omega) o.g2
  have a7 := sTail_len o.q1
  have a8 : (bytesOf sHead).length = 5 := rfl
  have b1 := o.h1; have b2 := o.p1; have b3 := o.g1; have b4 := o.r1
  have a9 : p.length * (65536 + 9) ≤ 64 * (65536 + 9) := Nat.mul_le_mul_right _ b2
  have a10 : g.length * (32 + 9) ≤ 64 * (32 + 9) := Nat.mul_le_mul_right _ b3
  unfold sEnc lEnc
  simp only [List.length_append, bytesOf_size] at a8 ⊢
  omega
/-- A snapshot that may be, as bytes. -/
theorem encode_told {k : Nat} (hk : 1500100 ≤ k) {t : Int} {h : ByteArray} {p g : List ByteArray} {r q : ByteArray} (hc : chkB t h p g r q = true) : ∃ b, snap_Encode.f k t h p g r q = some (b, 0) ∧ bytesOf b = sEnc t h p g r q := by
  have o := sOk hc
  have c := check_told k t h p g r q (by have := o.h1; omega) (fun x hx => by have := o.p2 x hx; omega) (fun x hx => by have := o.g2 x hx; omega) (by omega)
  rw [hc] at c
  obtain ⟨k, rfl⟩ : ∃ m, k = m + 1 := ⟨k - 1, by omega⟩
  have j0 : ∀ u : ByteArray, u.size ≤ 100 → ∃ b, snap_Encode.j0 (k + 1) u t h p g r q = some (b, 0) ∧ bytesOf b = bytesOf sHead ++ (encS t.toNat ++ (tEnc h ++ (lEnc p ++ (lEnc g ++ (bytesOf r ++ bytesOf u))))) := fun u hu => by
    obtain ⟨b1, e1, c1⟩ := sshort_told (k := k) (by omega) t o.t0 (by have := o.t1; omega)
    obtain ⟨b2, e2, c2⟩ := stext_told (k := k) (by omega) h (by have := o.h1; omega)
    obtain ⟨b3, e3, c3⟩ := list_told (k := k) (by omega) p o.p1 o.p2
    obtain ⟨b4, e4, c4⟩ := list_told (k := k) (by omega) g o.g1 (fun y hy => by have := o.g2 y hy; omega)
    have z1 : b1.size ≤ 9 := by rw [size_eq, c1]; exact encS_len9 (by have := o.t0; have := o.t1; omega)
    have z2 : b2.size ≤ 100 := by rw [size_eq, c2]; have := tEnc_len h (by have := o.h1; omega); have := o.h1; omega
    have z3 : b3.size ≤ 5000000 := by
      rw [size_eq, c3]
      have a3 := encS_len9 (x := p.length) (by have := o.p1; omega)
      have a4 := flat_len (c := 65536) (by omega) o.p2
      have a9 : p.length * (65536 + 9) ≤ 64 * (65536 + 9) := Nat.mul_le_mul_right _ o.p1
      unfold lEnc
      rw [List.length_append]
      omega
    have z4 : b4.size ≤ 5000000 := by
      rw [size_eq, c4]
      have a3 := encS_len9 (x := g.length) (by have := o.g1; omega)
      have a4 := flat_len (c := 32) (by omega) o.g2
      have a9 : g.length * (32 + 9) ≤ 64 * (32 + 9) := Nat.mul_le_mul_right _ o.g1
      unfold lEnc
      rw [List.length_append]
      omega
    have zh : (⟨#[71, 82, 84, 83, 1]⟩ : ByteArray).size = 5 := rfl
    have zr := o.r1
    rw [snap_Encode.j0, bnd e1, if_pos (by omega), bnd e2, if_pos (by rw [ByteArray.size_append]; omega), bnd e3, if_pos (by simp only [ByteArray.size_append]; omega), bnd e4, if_pos (by simp only [ByteArray.size_append]; omega), if_pos (by simp only [ByteArray.size_append]; omega), if_pos (by simp only [ByteArray.size_append]; omega)]
    refine ⟨_, rfl, ?_⟩
    simp only [bytesOf_append, c1, c2, c3, c4, List.append_assoc]
    rfl
  unfold snap_Encode.f
  rw [bnd c, if_pos rfl, if_pos rfl]
  unfold sEnc sTail
  by_cases e : q.data.toList = []
  · rw [if_pos (show q.toList = ([] : List UInt8) by rw [ByteArray.toList_eq]; exact e), if_pos e]
    exact j0 ⟨#[0]⟩ (by decide)
  · rw [if_neg (show ¬ q.toList = ([] : List UInt8) by rw [ByteArray.toList_eq]; exact e), if_neg e]
    have hq : q.size = 32 := o.q1.resolve_left e
    rw [if_pos (by omega)]
    obtain ⟨b, h1, h2⟩ := j0 ((⟨#[1]⟩ : ByteArray) ++ q) (by rw [ByteArray.size_append, hq]; decide)
    refine ⟨b, h1, ?_⟩
    rw [h2, bytesOf_append]
    rfl
theorem encode_bad {k : Nat} (hk : 1500100 ≤ k) {t : Int} {h : ByteArray} {p g : List ByteArray} {r q : ByteArray} (hh : h.size ≤ 140737488351232) (hp : ∀ x ∈ p, x.size ≤ 1500000) (hg : ∀ x ∈ g, x.size ≤ 140737488351232) (hc : chkB t h p g r q = false) : snap_Encode.f k t h p g r q = some (⟨#[]⟩, 200) := by
  have c := check_told k t h p g r q hh hp hg (by omega)
  rw [hc] at c
  unfold snap_Encode.f
  rw [bnd c]
  rfl
theorem send_told (s : ByteArray) (e : Int) : num_Reader_End.f s e = some (if s.size = 0 then e else if e = 0 then 3 else e, s, if s.size = 0 then e else if e = 0 then 3 else e) := by
  unfold num_Reader_End.f num_Reader_Left.f
  dsimp only [Option.bind]
  by_cases h : s.size = 0
  · rw [if_neg (by omega), if_pos h]
  · rw [if_pos (by omega), if_neg h, fail_told]
abbrev SRes := Option (Int × ByteArray × List ByteArray × List ByteArray × ByteArray × ByteArray × Int)
def sNone : SRes := some (0, (⟨#[]⟩ : ByteArray), ([] : List ByteArray), ([] : List ByteArray), (⟨#[]⟩ : ByteArray), (⟨#[]⟩ : ByteArray), 200)
theorem sj0_err (k : Nat) (ok : Bool) (has : Int) (s : ByteArray) (e : Int) (he : e ≠ 0) (t : Int) (h : ByteArray) (p g : List ByteArray) (r q : ByteArray) : snap_Decode.j0 (k + 1) ok has s e t h p g r q = sNone := by
  rw [snap_Decode.j0, bnd (send_told s e)]
  dsimp only
  rw [if_neg]
  · rfl
  · split
    · exact he
    · first | exact he | (rw [if_neg he]; exact he)
theorem sj0_ok (k : Nat) (hk : 1500100 ≤ k) (ok : Bool) (has : Int) (s : ByteArray) (t : Int) (h : ByteArray) (p g : List ByteArray) (r q : ByteArray) (hh : h.size ≤ 140737488351232) (hp : ∀ x ∈ p, x.size ≤ 1500000) (hg : ∀ x ∈ g, x.size ≤ 140737488351232) :
    snap_Decode.j0 (k + 1) ok has s 0 t h p g r q = if s.size = 0 ∧ ok = true ∧ has ≤ 1 ∧ chkB t h p g r q = true then some (t, h, p, g, r, q, 0) else sNone := by
  rw [snap_Decode.j0, bnd (send_told s 0)]
  dsimp only
  by_cases hs : s.size = 0
  · rw [if_pos hs, if_pos rfl]
    cases ok with
    | false => rw [if_neg (by decide), if_neg (by simp)]; rfl
    | true =>
      rw [if_pos rfl]
      by_cases hn : has > 1
      · rw [if_pos hn, if_neg (by omega)]; rfl
      · rw [if_neg hn, bnd (check_told k t h p g r q hh hp hg (by omega))]
        cases hc : chkB t h p g r q with
        | false => rw [if_neg (by decide), if_neg (by simp)]; rfl
        | true => rw [if_pos rfl, if_pos rfl, if_pos ⟨hs, rfl, by omega, rfl⟩]
  · rw [if_neg hs, if_pos rfl, if_neg (by decide), if_neg (fun x => hs x.1)]; rfl
/-- What a text is as a snapshot: just one that may be, by its own bytes; or none. -/
theorem decode_told {k : Nat} (hk : 1500200 ≤ k) (s : ByteArray) :
    (∃ t h p g r q, snap_Decode.f k s = some (t, h, p, g, r, q, 0) ∧ chkB t h p g r q = true ∧ bytesOf s = sEnc t h p g r q) ∨ snap_Decode.f k s = sNone := by
  obtain ⟨k, rfl⟩ : ∃ m, k = m + 1 := ⟨k - 1, by omega⟩
  obtain ⟨u, ok, hu, hu2⟩ : ∃ (u : ByteArray) (ok : Bool), strings_CutPrefix.f s sHead = some (u, ok) ∧ (ok = true → bytesOf s = bytesOf sHead ++ bytesOf u) := by
    rcases cutp_told s sHead with ⟨r, h1, _, h2⟩ | ⟨_, h2⟩
    · exact ⟨r, true, h2, fun _ => h1⟩
    · exact ⟨s, false, h2, fun h => by cases h⟩
  obtain ⟨v1, s1, e1, h1, z1, p1, q1⟩ := (item_short (k := k + 1) (by omega) 1099511627776 (by decide)).step u 0
  obtain ⟨v2, s2, e2, h2, z2, p2, q2⟩ := (item_text (k := k + 1) (by omega) 64 (by decide)).step s1 e1
  obtain ⟨v3, s3, e3, h3, z3, p3, q3⟩ := (item_texts (k := k + 1) (by omega) 65536 (by decide)).step s2 e2
  obtain ⟨v4, s4, e4, h4, z4, p4, q4⟩ := (item_texts (k := k + 1) (by omega) 32 (by decide)).step s3 e3
  obtain ⟨v5, s5, e5, h5, z5, p5, q5⟩ := (item_bytes 32).step s4 e4
  obtain ⟨v6, s6, e6, h6, z6, p6, q6⟩ := item_fixed1.step s5 e5
  try dsimp only at h1 h2 h3 h4 h5 h6 q1 q2 q3 q4 q5 q6
  have all : e6 = 0 → e5 = 0 ∧ e4 = 0 ∧ e3 = 0 ∧ e2 = 0 ∧ e1 = 0 := fun h => by
    have a := (q6 h).1
    have b := (q5 a).1
    have c := (q4 b).1
    have d := (q3 c).1
    exact ⟨a, b, c, d, (q2 d).1⟩
  have pre : e6 = 0 → ok = true → ∀ (t : List Int), bytesOf s6 = t → bytesOf s = bytesOf sHead ++ (encS v1.toNat ++ (tEnc v2 ++ (lEnc v3 ++ (lEnc v4 ++ (bytesOf v5 ++ ([v6] ++ t)))))) := fun h ho t ht => by
    obtain ⟨a5, a4, a3, a2, a1⟩ := all h
    rw [hu2 ho, (q1 a1).2.2, (q2 a2).2.2, (q3 a3).2.2, (q4 a4).2.2, (q5 a5).2.2, (q6 h).2.2, ht]
    rfl
  unfold snap_Decode.f num_Read.f
  rw [bnd (show strings_CutPrefix.f s (⟨#[71, 82, 84, 83, 1]⟩ : ByteArray) = some (u, ok) from hu)]
  dsimp only [Option.bind_some]
  rw [bnd h1]; dsimp only
  rw [bnd h2]; dsimp only
  rw [bnd h3]; dsimp only
  rw [bnd h4]; dsimp only
  rw [bnd (show num_Reader_Bytes.f s4 e4 32 = _ from h5)]; dsimp only
  rw [bnd h6]; dsimp only
  have sizes : e6 = 0 → v2.size ≤ 140737488351232 ∧ (∀ x ∈ v3, x.size ≤ 1500000) ∧ (∀ x ∈ v4, x.size ≤ 140737488351232) := fun h => by
    obtain ⟨a5, a4, a3, a2, a1⟩ := all h
    have b2 := (q2 a2).2.1
    have b3 := (q3 a3).2.1
    have b4 := (q4 a4).2.1
    exact ⟨by omega, fun x hx => by have := b3.2 x hx; omega, fun x hx => by have := b4.2 x hx; omega⟩
  have hnil : ∀ x : ByteArray, x.size = 0 → bytesOf x = [] := fun x hx => List.length_eq_zero_iff.1 (by rw [bytesOf_size]; exact hx)
  by_cases c1 : v6 = 1
  · rw [if_pos c1]
    obtain ⟨v7, s7, e7, h7, z7, p7, q7⟩ := (item_bytes 32).step s6 e6
    rw [bnd (show num_Reader_Bytes.f s6 e6 32 = _ from h7)]; dsimp only
    by_cases he : e7 = 0
    · obtain ⟨a6, b7, d7⟩ := q7 he
      obtain ⟨m2, m3, m4⟩ := sizes a6
      subst he
      rw [sj0_ok k (by omega) ok v6 s7 v1 v2 v3 v4 v5 v7 m2 m3 m4]
      by_cases hc : s7.size = 0 ∧ ok = true ∧ v6 ≤ 1 ∧ chkB v1 v2 v3 v4 v5 v7 = true
      · rw [if_pos hc]
        refine .inl ⟨_, _, _, _, _, _, rfl, hc.2.2.2, ?_⟩
        rw [pre a6 hc.2.1 _ d7, hnil s7 hc.1]
        have hne : ¬ v7.data.toList = [] := fun e => by
          have : v7.size = 0 := by rw [← data_length v7, e]; rfl
          omega
        unfold sEnc sTail
        rw [if_neg hne, c1, List.append_nil]
        rfl
      · rw [if_neg hc]; exact .inr rfl
    · exact .inr (sj0_err k ok v6 s7 e7 he _ _ _ _ _ _)
  · rw [if_neg c1]
    by_cases he : e6 = 0
    · obtain ⟨m2, m3, m4⟩ := sizes he
      have hz := (q6 he).2.1
      have pr := pre he
      subst he
      rw [sj0_ok k (by omega) ok v6 s6 v1 v2 v3 v4 v5 (⟨#[]⟩ : ByteArray) m2 m3 m4]
      by_cases hc : s6.size = 0 ∧ ok = true ∧ v6 ≤ 1 ∧ chkB v1 v2 v3 v4 v5 (⟨#[]⟩ : ByteArray) = true
      · rw [if_pos hc]
        refine .inl ⟨_, _, _, _, _, _, rfl, hc.2.2.2, ?_⟩
        rw [pr hc.2.1 _ (hnil s6 hc.1)]
        obtain rfl : v6 = 0 := by omega
        unfold sEnc sTail
        rw [if_pos rfl]
        rfl
      · rw [if_neg hc]; exact .inr rfl
    · exact .inr (sj0_err k ok v6 s6 e6 he _ _ _ _ _ _)
theorem decode_fwd {k : Nat} (hk : 1500200 ≤ k) {t : Int} {h : ByteArray} {p g : List ByteArray} {r q : ByteArray} (hc : chkB t h p g r q = true) (s : ByteArray) (hs : bytesOf s = sEnc t h p g r q) : snap_Decode.f k s = some (t, h, p, g, r, q, 0) := by
  have o := sOk hc
  obtain ⟨k, rfl⟩ : ∃ m, k = m + 1 := ⟨k - 1, by omega⟩
  have m1 : h.size ≤ 140737488351232 := by have := o.h1; omega
  have m2 : ∀ x ∈ p, x.size ≤ 1500000 := fun x hx => by have := o.p2 x hx; omega
  have m3 : ∀ x ∈ g, x.size ≤ 140737488351232 := fun x hx => by have := o.g2 x hx; omega
  obtain ⟨u, hu, hb⟩ : ∃ u : ByteArray, strings_CutPrefix.f s sHead = some (u, true) ∧ bytesOf u = encS t.toNat ++ (tEnc h ++ (lEnc p ++ (lEnc g ++ (bytesOf r ++ sTail q)))) := by
    rcases cutp_told s sHead with ⟨r', h1, _, h2⟩ | ⟨h1, _⟩
    · exact ⟨r', h2, List.append_cancel_left (h1.symm.trans hs)⟩
    · exact absurd hs (h1 _)
  obtain ⟨s1, h1, b1⟩ := (item_short (k := k + 1) (by omega) 1099511627776 (by decide)).fwd t u _ ⟨o.t0, o.t1⟩ hb
  obtain ⟨s2, h2, b2⟩ := (item_text (k := k + 1) (by omega) 64 (by decide)).fwd h s1 _ (by have := o.h1; omega) b1
  obtain ⟨s3, h3, b3⟩ := (item_texts (k := k + 1) (by omega) 65536 (by decide)).fwd p s2 _ ⟨o.p1, fun y hy => by have := o.p2 y hy; omega⟩ b2
  obtain ⟨s4, h4, b4⟩ := (item_texts (k := k + 1) (by omega) 32 (by decide)).fwd g s3 _ ⟨o.g1, fun y hy => by have := o.g2 y hy; omega⟩ b3
  obtain ⟨s5, h5, b5⟩ := (item_bytes 32).fwd r s4 _ o.r1 b4
  try dsimp only at h1 h2 h3 h4 h5
  have hnil : ∀ x : ByteArray, bytesOf x = [] → x.size = 0 := fun x hx => by rw [size_eq, hx]; rfl
  unfold snap_Decode.f num_Read.f
  rw [bnd (show strings_CutPrefix.f s (⟨#[71, 82, 84, 83, 1]⟩ : ByteArray) = some (u, true) from hu)]
  dsimp only [Option.bind_some]
  rw [bnd h1]; dsimp only
  rw [bnd h2]; dsimp only
  rw [bnd h3]; dsimp only
  rw [bnd h4]; dsimp only
  rw [bnd (show num_Reader_Bytes.f s4 0 32 = _ from h5)]; dsimp only
  unfold sTail at b5
  by_cases e : q.data.toList = []
  · rw [if_pos e] at b5
    obtain ⟨s6, h6, b6⟩ := item_fixed1.fwd 0 s5 [] ⟨by decide, by decide⟩ (by rw [b5]; rfl)
    rw [bnd (show num_Reader_Fixed.f s5 0 1 = _ from h6)]; dsimp only
    rw [if_neg (by decide), sj0_ok k (by omega) true 0 s6 t h p g r (⟨#[]⟩ : ByteArray) m1 m2 m3]
    have hq := nil_of e
    subst hq
    rw [if_pos ⟨hnil s6 b6, rfl, by decide, hc⟩]
  · rw [if_neg e] at b5
    obtain ⟨s6, h6, b6⟩ := item_fixed1.fwd 1 s5 (bytesOf q) ⟨by decide, by decide⟩ (by rw [b5]; rfl)
    rw [bnd (show num_Reader_Fixed.f s5 0 1 = _ from h6)]; dsimp only
    obtain ⟨s7, h7, b7⟩ := (item_bytes 32).fwd q s6 [] (o.q1.resolve_left e) (by rw [b6, List.append_nil])
    rw [if_pos rfl, bnd (show num_Reader_Bytes.f s6 0 32 = _ from h7)]; dsimp only
    rw [sj0_ok k (by omega) true 1 s7 t h p g r q m1 m2 m3, if_pos ⟨hnil s7 b7, rfl, by decide, hc⟩]
/-- Bytes of one that may be, with more behind, are no other's. -/
theorem sEnc_free {t : Int} {h : ByteArray} {p g : List ByteArray} {r q : ByteArray} {t' : Int} {h' : ByteArray} {p' g' : List ByteArray} {r' q' : ByteArray} (o : SOk t h p g r q) (o' : SOk t' h' p' g' r' q') (s : ByteArray) (hs : bytesOf s = sEnc t h p g r q) (more : List Int) (hm : bytesOf s = sEnc t' h' p' g' r' q' ++ more) : more = [] := by
  unfold sEnc at hs hm
  simp only [List.append_assoc] at hs hm
  obtain ⟨u, hb⟩ : ∃ u : ByteArray, bytesOf s = bytesOf sHead ++ bytesOf u := by
    rcases cutp_told s sHead with ⟨r', h1, _, h2⟩ | ⟨h1, _⟩
    · exact ⟨r', h1⟩
    · exact absurd hs (h1 _)
  have hs1 := List.append_cancel_left (hb.symm.trans hs)
  have hm1 := List.append_cancel_left (hb.symm.trans hm)
  obtain ⟨_, e1, s1, b1⟩ := (item_short (k := 1000) (by omega) 1099511627776 (by decide)).uniq u ⟨o.t0, o.t1⟩ ⟨o'.t0, o'.t1⟩ hs1 hm1
  obtain ⟨_, e2, s2, b2⟩ := (item_text (k := 1000) (by omega) 64 (by decide)).uniq s1 (v := h) (w := h') (by have := o.h1; omega) (by have := o'.h1; omega) b1 (b1.trans e1)
  obtain ⟨_, e3, s3, b3⟩ := (item_texts (k := 1000) (by omega) 65536 (by decide)).uniq s2 (v := p) (w := p') ⟨o.p1, fun y hy => by have := o.p2 y hy; omega⟩ ⟨o'.p1, fun y hy => by have := o'.p2 y hy; omega⟩ b2 (b2.trans e2)
  obtain ⟨_, e4, s4, b4⟩ := (item_texts (k := 1000) (by omega) 32 (by decide)).uniq s3 (v := g) (w := g') ⟨o.g1, fun y hy => by have := o.g2 y hy; omega⟩ ⟨o'.g1, fun y hy => by have := o'.g2 y hy; omega⟩ b3 (b3.trans e3)
  obtain ⟨_, e5, s5, b5⟩ := (item_bytes 32).uniq s4 (v := r) (w := r') o.r1 o'.r1 b4 (b4.trans e4)
  have l1 := sTail_len o.q1
  have e6 := congrArg List.length e5
  rw [List.length_append] at e6
  unfold sTail at e5 e6
  by_cases c1 : q.data.toList = []
  · by_cases c2 : q'.data.toList = []
    · rw [if_pos c1, if_pos c2] at e5
      simp at e5
      exact e5
    · rw [if_pos c1, if_neg c2] at e5
      simp at e5
  · by_cases c2 : q'.data.toList = []
    · rw [if_neg c1, if_pos c2] at e5
      simp at e5
    · rw [if_neg c1, if_neg c2, List.length_cons, List.length_cons, bytesOf_size, bytesOf_size, o.q1.resolve_left c1, o'.q1.resolve_left c2] at e6
      exact List.length_eq_zero_iff.1 (by omega)
theorem decode_cut {k : Nat} (hk : 1500200 ≤ k) {t : Int} {h : ByteArray} {p g : List ByteArray} {r q : ByteArray} (hc : chkB t h p g r q = true) (s u : ByteArray) (hs : bytesOf s = sEnc t h p g r q) (more : List Int) (hm : more ≠ []) (hu : bytesOf s = bytesOf u ++ more) : snap_Decode.f k u = sNone := by
  rcases decode_told hk u with ⟨t', h', p', g', r', q', _, hy, hb⟩ | h
  · exact absurd (sEnc_free (sOk hc) (sOk hy) s hs more (by rw [hu, hb])) hm
  · exact h
end Go.Proofs.YtfihbohdhcidbaaDoor.QSnpB
end

section
/- How two snapshots stand, as it is printed: its plain meaning. -/
namespace Go.Proofs.YtfihbohdhcidbaaDoor.QSnpB
open Go.RowKit Go.Proofs.YtfihbohdhcidbaaDoorW.PrintWords Go.Proofs.YtfihbohdhcidbaaDoorW.PrintLast
open Go Go.Proofs.YtfihbohdhcidbaaDoor.PathOrd
set_option linter.unusedVariables false
theorem scompare_l (X Y : List ByteArray) (hX : X.length ≤ 4294967296) : ∀ (k : Nat) (i : Nat), i ≤ X.length → i ≤ Y.length → X.length - i < k → slices_Compare_string_string.l0 k X Y X (X.length : Int) (i : Int) = some (cmpL (X.drop i) (Y.drop i))
  | 0, _, _, _, h => by omega
  | k + 1, i, hi, hj, h => by
    unfold slices_Compare_string_string.l0
    by_cases hx : i < X.length
    · rw [if_pos (by omega), if_pos (by omega), if_pos (by omega)]
      rw [List.drop_eq_getElem_cons hx]
      by_cases hy : i < Y.length
      · rw [if_neg (by omega), if_pos (by omega)]
        rw [List.drop_eq_getElem_cons hy]
        have ex : rdOf ByteArray.empty X (i : Int) = X[i] := by simp [rdOf, List.getD_eq_getElem?_getD, hx]
        have ey : rdOf ByteArray.empty Y (i : Int) = Y[i] := by simp [rdOf, List.getD_eq_getElem?_getD, hy]
        rw [ex, ey]
        unfold cmp_Compare_string.f
        simp only [Option.bind_some, cmpL]
        by_cases e : cmpT X[i] Y[i] = 0
        · rw [if_pos e, if_pos e]
          rw [show wrap64 ((i : Int) + 1) = ((i + 1 : Nat) : Int) by unfold wrap64; omega]
          exact scompare_l X Y hX k (i + 1) (by omega) (by omega) (by omega)
        · rw [if_neg e, if_neg e]
      · rw [if_pos (by omega)]
        have : Y.drop i = [] := List.drop_eq_nil_of_le (by omega)
        rw [this]
        rfl
    · rw [if_neg (by omega)]
      have : X.drop i = [] := List.drop_eq_nil_of_le (by omega)
      rw [this]
      by_cases hy : i < Y.length
      · rw [if_pos (by omega), List.drop_eq_getElem_cons hy]
        rfl
      · rw [if_neg (by omega), List.drop_eq_nil_of_le (by omega)]
        rfl
theorem scompare_told (k : Nat) (X Y : List ByteArray) (hX : X.length ≤ 4294967296) (hk : X.length < k) : slices_Compare_string_string.f k X Y = some (cmpL X Y) := by
  have h := scompare_l X Y hX k 0 (Nat.zero_le _) (Nat.zero_le _) (by omega)
  simpa [slices_Compare_string_string.f] using h
/-- How two whole numbers stand. -/
def cmpI (a b : Int) : Int := if a < b then -1 else if a > b then 1 else 0
theorem cmpI_told (a b : Int) : cmp_Compare_int.f a b = some (cmpI a b) := by
  unfold cmp_Compare_int.f cmp_isNaN_int.f cmpI
  have h : ∀ x : Int, (x != x) = false := fun x => by simp
  simp only [h, Option.bind_some, Bool.false_eq_true, if_false]
  split
  · rfl
  · split <;> rfl
/-- The first one that is not 0. -/
def firstNZ : List Int → Int
  | [] => 0
  | a :: l => if a = 0 then firstNZ l else a
theorem or_l (L : List Int) (hL : L.length ≤ 1000) : ∀ (k i : Nat), i ≤ L.length → L.length - i < k → cmp_Or_int.l0 k 0 L (L.length : Int) (i : Int) = some (firstNZ (L.drop i))
  | 0, _, _, h => by omega
  | k + 1, i, hi, h => by
    unfold cmp_Or_int.l0
    by_cases hx : i < L.length
    · rw [if_pos (by omega), if_pos (by omega), if_pos (by omega), List.drop_eq_getElem_cons hx]
      have ex : rd L (i : Int) = L[i] := by simp [rd, List.getD_eq_getElem?_getD, hx]
      rw [ex]
      simp only [firstNZ]
      by_cases e : L[i] = 0
      · rw [if_pos e, if_pos e, show wrap64 ((i : Int) + 1) = ((i + 1 : Nat) : Int) by unfold wrap64; omega]
        exact or_l L hL k (i + 1) (by omega) (by omega)
      · rw [if_neg e, if_neg e]
    · rw [if_neg (by omega), List.drop_eq_nil_of_le (by omega)]
      rfl
theorem or_told (k : Nat) (L : List Int) (hL : L.length ≤ 1000) (hk : L.length < k) : cmp_Or_int.f k L = some (firstNZ L) := by
  have h := or_l L hL k 0 (Nat.zero_le _) (by omega)
  unfold cmp_Or_int.f
  exact h
/-- The order of snapshots. -/
def ordS (t : Int) (h : ByteArray) (p g : List ByteArray) (r q : ByteArray) (t' : Int) (h' : ByteArray) (p' g' : List ByteArray) (r' q' : ByteArray) : Int :=
  firstNZ [cmpI t t', cmpT h h', cmpL p p', cmpL g g', cmpT r r', cmpT q q']
theorem order_told (k : Nat) (t : Int) (h : ByteArray) (p g : List ByteArray) (r q : ByteArray) (t' : Int) (h' : ByteArray) (p' g' : List ByteArray) (r' q' : ByteArray) (hp : p.length ≤ 4294967296) (hg : g.length ≤ 4294967296) (kp : p.length < k) (kg : g.length < k) (k6 : 6 < k) :
    snap_order.f k t h p g r q t' h' p' g' r' q' = some (ordS t h p g r q t' h' p' g' r' q') := by
  unfold snap_order.f
  rw [cmpI_told]
  simp only [Option.bind_some, cmp_Compare_string.f]
  rw [scompare_told k p p' hp kp]
  simp only [Option.bind_some]
  rw [scompare_told k g g' hg kg]
  simp only [Option.bind_some]
  rw [or_told k _ (by simp) (by simpa using k6)]
  rfl
end Go.Proofs.YtfihbohdhcidbaaDoor.QSnpB
end

section
/- The order of snapshots is one: plain. -/
namespace Go.Proofs.YtfihbohdhcidbaaDoor.QSnpB
open Go.RowKit Go.Proofs.YtfihbohdhcidbaaDoorW.PrintWords Go.Proofs.YtfihbohdhcidbaaDoorW.PrintLast
open Go Go.Proofs.YtfihbohdhcidbaaDoor.PathOrd
set_option linter.unusedVariables false
/-- A comparison: turned about it turns its sign, nothing but like ones are 0, and it goes on. -/
structure Cmp {α : Type} (c : α → α → Int) : Prop where
  swap : ∀ x y, c y x = - c x y
  zero : ∀ x y, c x y = 0 → x = y
  trans : ∀ x y z, c x y < 0 → c y z < 0 → c x z < 0
theorem Cmp.self {α : Type} {c : α → α → Int} (h : Cmp c) (x : α) : c x x = 0 := by have := h.swap x x; omega
def lex {α β : Type} (c : α → α → Int) (d : β → β → Int) (x y : α × β) : Int := if c x.1 y.1 = 0 then d x.2 y.2 else c x.1 y.1
theorem Cmp.lex {α β : Type} {c : α → α → Int} {d : β → β → Int} (hc : Cmp c) (hd : Cmp d) : Cmp (lex c d) where
  swap := fun x y => by
    unfold QSnpB.lex
    rw [hc.swap x.1 y.1, hd.swap x.2 y.2]
    by_cases e : c x.1 y.1 = 0
    · rw [if_pos e, if_pos (by omega)]
    · rw [if_neg e, if_neg (by omega)]
  zero := fun x y h => by
    unfold QSnpB.lex at h
    by_cases e : c x.1 y.1 = 0
    · rw [if_pos e] at h
      exact Prod.ext (hc.zero _ _ e) (hd.zero _ _ h)
    · rw [if_neg e] at h
      exact absurd h e
  trans := fun x y z h1 h2 => by
    unfold QSnpB.lex at h1 h2 ⊢
    by_cases e1 : c x.1 y.1 = 0
    · rw [if_pos e1] at h1
      rw [hc.zero _ _ e1]
      by_cases e2 : c y.1 z.1 = 0
      · rw [if_pos e2] at h2 ⊢
        exact hd.trans _ _ _ h1 h2
      · rw [if_neg e2] at h2 ⊢
        exact h2
    · rw [if_neg e1] at h1
      by_cases e2 : c y.1 z.1 = 0
      · rw [if_pos e2] at h2
        rw [← hc.zero _ _ e2, if_neg e1]
        exact h1
      · rw [if_neg e2] at h2
        have h3 := hc.trans _ _ _ h1 h2
        rw [if_neg (by omega)]
        exact h3
theorem cmp_I : Cmp cmpI where
  swap := fun x y => by unfold cmpI; split <;> split <;> first | omega | (split <;> omega)
  zero := fun x y h => by
    unfold cmpI at h
    split at h
    · omega
    · split at h <;> omega
  trans := fun x y z h1 h2 => by
    unfold cmpI at h1 h2 ⊢
    split at h1
    · split at h2
      · rw [if_pos (by omega)]; omega
      · split at h2 <;> omega
    · split at h1 <;> omega
theorem cmp_T : Cmp cmpT where
  swap := cmpT_swap
  zero := fun _ _ h => cmpT_zero h
  trans := fun x y z h1 h2 => cmpT_neg.2 (bl_trans _ _ _ (cmpT_neg.1 h1) (cmpT_neg.1 h2))
theorem cmp_L : Cmp cmpL where
  swap := cmpL_swap
  zero := fun _ _ h => cmpL_zero h
  trans := cmpL_trans
/-- A snapshot, part by part. -/
abbrev Sn := Int × ByteArray × List ByteArray × List ByteArray × ByteArray × ByteArray
def ordP : Sn → Sn → Int := lex cmpI (lex cmpT (lex cmpL (lex cmpL (lex cmpT cmpT))))
theorem cmp_P : Cmp ordP := cmp_I.lex (cmp_T.lex (cmp_L.lex (cmp_L.lex (cmp_T.lex cmp_T))))
theorem ordS_P (t : Int) (h : ByteArray) (p g : List ByteArray) (r q : ByteArray) (t' : Int) (h' : ByteArray) (p' g' : List ByteArray) (r' q' : ByteArray) :
    ordS t h p g r q t' h' p' g' r' q' = ordP (t, h, p, g, r, q) (t', h', p', g', r', q') := by
  unfold ordS ordP lex
  simp only [firstNZ]
  by_cases e : cmpT q q' = 0
  · rw [if_pos e, e]
  · rw [if_neg e]
end Go.Proofs.YtfihbohdhcidbaaDoor.QSnpB
end

