/- NumBack, the plain part: for all ints and all texts that can be read: numbers and texts written one behind the other are read as they were, and nothing is left; with a byte less they end too early. -/
import Derived.Test.YtfhipccjnmfefaaZNumNum
namespace Go.Proofs.Ytfhipccjnmfefaa.Pure
open Go.RowKit Go.Proofs.Ytfhipccjnmfefaa.QNum Go.Proofs.YtfhipccjnmfefaaW.PrintWords Go.Proofs.YtfhipccjnmfefaaW.PrintLast Go.Proofs.YtfhipccjnmfefaaW.PrintMore
set_option linter.unusedVariables false

/-! ### what is written -/
def among (x : Int) : Nat := (x % 1099511627776).toNat
theorem among_told (x : Int) (h0 : -9223372036854775808 ≤ x) (h1 : x < 9223372036854775808) : garretbook_Among.f x 1099511627776 = some (among x : Int) := by
  unfold garretbook_Among.f among
  rw [if_neg (by omega)]
  congr 1
  have hm : Int.tmod x 1099511627776 + 1099511627776 > 0 ∧ Int.tmod x 1099511627776 + 1099511627776 < 2199023255552 := by
    have := Int.tmod_lt_of_pos x (show (0 : Int) < 1099511627776 by omega)
    have := Int.lt_tmod_of_pos x (show (0 : Int) < 1099511627776 by omega)
    omega
  have hw : wrap64 (Int.tmod x 1099511627776 + 1099511627776) = Int.tmod x 1099511627776 + 1099511627776 := by unfold wrap64; omega
  rw [hw, Int.tmod_eq_emod_of_nonneg (by omega)]
  have ht := Int.tmod_eq_emod (a := x) (b := 1099511627776)
  have he := Int.emod_nonneg x (show (1099511627776 : Int) ≠ 0 by omega)
  rw [Int.toNat_of_nonneg he, ht]
  split <;> omega
def fix5 (n : Nat) : List Int := [(n / 4294967296 % 256 : Nat), (n / 16777216 % 256 : Nat), (n / 65536 % 256 : Nat), (n / 256 % 256 : Nat), (n % 256 : Nat)]
theorem fix5_bytes (n : Nat) : Bytes8 (fix5 n) := by intro c hc; simp only [fix5, List.mem_cons, List.not_mem_nil, or_false] at hc; omega
theorem fixed5 (n : Int) : num_Fixed.j0 20 n 5 false = if shr .i64 n 40 > 0 then some ((⟨#[]⟩ : ByteArray), 1) else some (strOfNums [shr .i64 n 32 % 256, shr .i64 n 24 % 256, shr .i64 n 16 % 256, shr .i64 n 8 % 256, shr .i64 n 0 % 256], 0) := by kernel_rfl
theorem shr_pow (n : Int) (i : Nat) (h : i ≤ 64) : shr .i64 n (i : Int) = n / 2 ^ i := by
  unfold shr; rw [show min ((i : Int)).toNat IntKind.i64.bits = i by simp [IntKind.bits]; omega]
theorem fix_mono {n b : Int} {r : ByteArray × Int} : ∀ (d : Nat), num_Fixed.f 20 n b = some r → num_Fixed.f (20 + d) n b = some r := by
  intro d h
  induction d with
  | zero => exact h
  | succ d ih => exact num_Fixed.mono _ _ _ _ ih
theorem fix_told {k : Nat} (hk : 20 ≤ k) (n : Nat) (h : n < 1099511627776) : num_Fixed.f k n 5 = some (strOfNums (fix5 n), 0) := by
  obtain ⟨d, rfl⟩ : ∃ d, k = 20 + d := ⟨k - 20, by omega⟩
  refine fix_mono d ?_
  unfold num_Fixed.f
  have s0 : shr .i64 (n : Int) 0 = n := by rw [show (0 : Int) = ((0 : Nat) : Int) from rfl, shr_pow n 0 (by decide)]; simp
  have s8 : shr .i64 (n : Int) 8 = n / 256 := shr_pow n 8 (by decide)
  have s16 : shr .i64 (n : Int) 16 = n / 65536 := shr_pow n 16 (by decide)
  have s24 : shr .i64 (n : Int) 24 = n / 16777216 := shr_pow n 24 (by decide)
  have s32 : shr .i64 (n : Int) 32 = n / 4294967296 := shr_pow n 32 (by decide)
  have s40 : shr .i64 (n : Int) 40 = n / 1099511627776 := shr_pow n 40 (by decide)
  rw [if_neg (by omega), if_neg (by omega), decide_eq_false (by omega), fixed5, s0, s8, s16, s24, s32, s40, if_neg (by omega)]
  unfold fix5
  congr 3
/-- What an int is written as. -/
def wInt (x : Int) : List Int := fix5 (among x) ++ (if 0 ≤ x then encS x.toNat else [])
def wTxt (t : ByteArray) : List Int := if t.size ≤ 500 then encS t.size ++ bytesOf t else []
theorem among_lt (x : Int) : among x < 1099511627776 := by
  unfold among
  have := Int.emod_lt_of_pos x (show (0 : Int) < 1099511627776 by omega)
  omega
theorem wInt_bytes (x : Int) : Bytes8 (wInt x) := by
  refine bytes8_append (fix5_bytes _) ?_
  split
  · exact encS_bytes _
  · intro c hc; cases hc
theorem encS_len10 (x : Nat) (h : x < 9223372036854775808) : (encS x).length ≤ 10 := by have := encS_len9 h; omega
theorem wInt_len (x : Int) (h : x < 9223372036854775808) : (wInt x).length ≤ 15 := by
  unfold wInt
  have : (fix5 (among x)).length = 5 := rfl
  rw [List.length_append, this]
  split
  · have := encS_len10 x.toNat (by omega); omega
  · simp
theorem wTxt_len (t : ByteArray) : (wTxt t).length ≤ 510 := by
  unfold wTxt
  split
  · have := encS_len10 t.size (by omega)
    rw [List.length_append, bytesOf_size]; omega
  · simp
theorem flat_len {α : Type} (f : α → List Int) (b : Nat) (l : List α) (h : ∀ x ∈ l, (f x).length ≤ b) : (l.flatMap f).length ≤ l.length * b := by
  induction l with
  | nil => simp
  | cons x l ih =>
    rw [List.flatMap_cons, List.length_append, List.length_cons, Nat.add_mul]
    have := h x (List.mem_cons_self ..)
    have := ih (fun y hy => h y (List.mem_cons_of_mem _ hy))
    omega
theorem take_snoc {α : Type} (l : List α) (i : Nat) (h : i < l.length) : l.take (i + 1) = l.take i ++ [l[i]] := List.take_succ_eq_append_getElem h
theorem rd_get (l : List Int) (i : Nat) (h : i < l.length) : rd l (i : Int) = l[i] := by
  simp [rd, List.getD_eq_getElem?_getD, List.getElem?_eq_getElem h]
theorem rdOf_get (l : List ByteArray) (i : Nat) (h : i < l.length) : rdOf ByteArray.empty l (i : Int) = l[i] := by
  simp [rdOf, List.getD_eq_getElem?_getD, List.getElem?_eq_getElem h]
theorem w1 (i : Nat) (h : i < 100000000000000) : wrap64 ((i : Int) + 1) = ((i + 1 : Nat) : Int) := by unfold wrap64; omega

theorem write0 (l : List Int) (t : List ByteArray) (hl : l.length < 100000000000000) (hw : ∀ x ∈ l, -9223372036854775808 ≤ x ∧ x < 9223372036854775808) : ∀ (d k i : Nat) (s : ByteArray), 20 ≤ k → min l.length 30 - i = d → i ≤ min l.length 30 → bytesOf s = ((l.take 30).take i).flatMap wInt →
    ∃ s', bytesOf s' = (l.take 30).flatMap wInt ∧ garretlaw01_NumBack.l0 (k + 2 * d + 2) l t s i = garretlaw01_NumBack.l1 k l t s' 0 := by
  intro d
  induction d with
  | zero =>
    intro k i s hk hd hi hs
    refine ⟨s, by rw [hs, List.take_of_length_le (by rw [List.length_take]; omega)], ?_⟩
    show garretlaw01_NumBack.l0 (k + 1 + 1) l t s i = _
    simp only [garretlaw01_NumBack.l0]
    by_cases hlt : (i : Int) < l.length
    · rw [if_pos hlt, decide_eq_false (by omega)]; simp only [garretlaw01_NumBack.j1]; simp
    · rw [if_neg hlt]; simp only [garretlaw01_NumBack.j1]; simp
  | succ d ih =>
    intro k i s hk hd hi hs
    have hlt : i < l.length := by omega
    obtain ⟨hx0, hx1⟩ := hw l[i] (List.getElem_mem hlt)
    have hsz : s.size ≤ 450 := by
      rw [size_eq, hs]
      have h1 := flat_len wInt 15 ((l.take 30).take i) (fun x hx => wInt_len x (hw x (List.mem_of_mem_take (List.mem_of_mem_take hx))).2)
      have h2 : ((l.take 30).take i).length ≤ 30 := by rw [List.length_take, List.length_take]; omega
      omega
    have hnext : ∀ (r : ByteArray), bytesOf r = wInt l[i] → bytesOf (s ++ r) = ((l.take 30).take (i + 1)).flatMap wInt := by
      intro r hr
      rw [take_snoc (l.take 30) i (by rw [List.length_take]; omega), List.flatMap_append, bytesOf_append, hs, hr, List.getElem_take]
      simp
    have hk2 : k + 2 * (d + 1) + 2 = (k + 2 * d + 2) + 1 + 1 := by omega
    have hrec := fun (r : ByteArray) hr => ih k (i + 1) (s ++ r) hk (by omega) (by omega) (hnext r hr)
    rw [hk2]
    generalize hK : k + 2 * d + 2 = K at *
    simp only [garretlaw01_NumBack.l0]
    rw [if_pos (by omega), decide_eq_true (by omega)]
    simp only [garretlaw01_NumBack.j1, if_true]
    rw [if_pos (by omega), if_pos (by omega), rd_get l i hlt, bnd (among_told _ hx0 hx1), bnd (fix_told (by omega) _ (among_lt _))]
    dsimp only
    by_cases hneg : l[i] < 0
    · rw [bnd (short_neg _ hneg)]
      dsimp only
      rw [if_pos rfl, if_neg (by simp [hneg])]
      have hr : bytesOf (strOfNums (fix5 (among l[i])) ++ (⟨#[]⟩ : ByteArray)) = wInt l[i] := by
        rw [bytesOf_append, bytesOf_strOfNums (fix5_bytes _)]
        unfold wInt
        rw [if_neg (by omega)]; rfl
      have hz : (strOfNums (fix5 (among l[i])) ++ (⟨#[]⟩ : ByteArray)).size ≤ 15 := by rw [size_eq, hr]; exact wInt_len _ hx1
      have hz1 : (strOfNums (fix5 (among l[i]))).size = 5 := by rw [size_eq, bytesOf_strOfNums (fix5_bytes _)]; rfl
      rw [if_pos (by rw [hz1]; decide), if_pos (by omega), w1 i (by omega)]
      exact hrec _ hr
    · rw [bnd (short_told (by omega) _ (by omega) hx1)]
      dsimp only
      rw [if_pos rfl, if_neg (by simp; omega)]
      have hr : bytesOf (strOfNums (fix5 (among l[i])) ++ strOfNums (encS l[i].toNat)) = wInt l[i] := by
        rw [bytesOf_append, bytesOf_strOfNums (fix5_bytes _), bytesOf_strOfNums (encS_bytes _)]
        unfold wInt
        rw [if_pos (by omega)]
      have hz : (strOfNums (fix5 (among l[i])) ++ strOfNums (encS l[i].toNat)).size ≤ 15 := by rw [size_eq, hr]; exact wInt_len _ hx1
      have hz1 : (strOfNums (fix5 (among l[i]))).size + (strOfNums (encS l[i].toNat)).size ≤ 15 := by rw [← ByteArray.size_append]; exact hz
      rw [if_pos (by omega), if_pos (by omega), w1 i (by omega)]
      exact hrec _ hr
theorem write1 (l : List Int) (t : List ByteArray) (hl : t.length < 100000000000000) (p : List Int) (hp : p.length ≤ 450) : ∀ (d k i : Nat) (s : ByteArray), 20 ≤ k → min t.length 30 - i = d → i ≤ min t.length 30 → bytesOf s = p ++ ((t.take 30).take i).flatMap wTxt →
    ∃ s', bytesOf s' = p ++ (t.take 30).flatMap wTxt ∧ garretlaw01_NumBack.l1 (k + 2 * d + 2) l t s i = garretlaw01_NumBack.l2 k l t s' [0, 1] 2 0 := by
  intro d
  induction d with
  | zero =>
    intro k i s hk hd hi hs
    refine ⟨s, by rw [hs, List.take_of_length_le (by rw [List.length_take]; omega)], ?_⟩
    show garretlaw01_NumBack.l1 (k + 1 + 1) l t s i = _
    simp only [garretlaw01_NumBack.l1]
    by_cases hlt : (i : Int) < t.length
    · rw [if_pos hlt, decide_eq_false (by omega)]; simp only [garretlaw01_NumBack.j3]; simp
    · rw [if_neg hlt]; simp only [garretlaw01_NumBack.j3]; simp
  | succ d ih =>
    intro k i s hk hd hi hs
    have hlt : i < t.length := by omega
    have hsz : s.size ≤ 15750 := by
      rw [size_eq, hs, List.length_append]
      have h1 := flat_len wTxt 510 ((t.take 30).take i) (fun x hx => wTxt_len x)
      have h2 : ((t.take 30).take i).length ≤ 30 := by rw [List.length_take, List.length_take]; omega
      omega
    have htk : ((t.take 30).take (i + 1)).flatMap wTxt = ((t.take 30).take i).flatMap wTxt ++ wTxt t[i] := by
      rw [take_snoc (t.take 30) i (by rw [List.length_take]; omega), List.flatMap_append, List.getElem_take]
      simp
    have hk2 : k + 2 * (d + 1) + 2 = (k + 2 * d + 2) + 1 + 1 := by omega
    have hrec := fun (r : ByteArray) hr => ih k (i + 1) r hk (by omega) (by omega) hr
    rw [hk2]
    generalize hK : k + 2 * d + 2 = K at *
    simp only [garretlaw01_NumBack.l1]
    rw [if_pos (by omega), decide_eq_true (by omega)]
    simp only [garretlaw01_NumBack.j3, if_true]
    rw [if_pos (by omega), if_pos (by omega), rdOf_get t i hlt]
    by_cases h5 : (t[i].size : Int) ≤ 500
    · rw [if_pos h5, bnd (text_told (by omega) _ (by omega))]
      have hr : bytesOf (strOfNums (encS t[i].size) ++ t[i]) = wTxt t[i] := by
        rw [bytesOf_append, bytesOf_strOfNums (encS_bytes _)]
        unfold wTxt
        rw [if_pos (by omega)]
      have hz : (strOfNums (encS t[i].size) ++ t[i]).size ≤ 510 := by rw [size_eq, hr]; exact wTxt_len _
      rw [if_pos (by omega), w1 i (by omega)]
      exact hrec (s ++ (strOfNums (encS t[i].size) ++ t[i])) (by rw [htk, bytesOf_append s, hs, hr, List.append_assoc])
    · rw [if_neg h5, w1 i (by omega)]
      refine hrec s ?_
      rw [htk, hs]
      have : wTxt t[i] = [] := by unfold wTxt; rw [if_neg (by omega)]
      rw [this, List.append_nil]

/-! ### what is read -/
theorem num_step (acc c : Int) (h0 : 0 ≤ acc) (h1 : acc < 1099511627776) (hc0 : 0 ≤ c) (hc1 : c < 256) : Go.bits .or .i64 (wrap64 (acc * 256)) (wrap64 c) = acc * 256 + c := by
  have e1 : wrap64 (acc * 256) = acc * 256 := by unfold wrap64; omega
  have e2 : wrap64 c = c := by unfold wrap64; omega
  rw [e1, e2]
  exact bits_join .i64 63 (by decide) (fun n h0 h1 => by rw [i64_w]; unfold wrap64; omega) 8 _ _ (by omega) (by omega) (by omega) hc0 (by omega) (by omega)
theorem num_fix5 (n : Nat) (h : n < 1099511627776) : num_Reader_Fixed.num (fix5 n) = n := by
  unfold num_Reader_Fixed.num fix5
  rw [List.foldl_cons, List.foldl_cons, List.foldl_cons, List.foldl_cons, List.foldl_cons, List.foldl_nil]
  have h1 := num_step 0 ((n / 4294967296 % 256 : Nat) : Int) (by omega) (by omega) (by omega) (by omega)
  have h2 := num_step (0 * 256 + ((n / 4294967296 % 256 : Nat) : Int)) ((n / 16777216 % 256 : Nat) : Int) (by omega) (by omega) (by omega) (by omega)
  have h3 := num_step ((0 * 256 + ((n / 4294967296 % 256 : Nat) : Int)) * 256 + ((n / 16777216 % 256 : Nat) : Int)) ((n / 65536 % 256 : Nat) : Int) (by omega) (by omega) (by omega) (by omega)
  have h4 := num_step (((0 * 256 + ((n / 4294967296 % 256 : Nat) : Int)) * 256 + ((n / 16777216 % 256 : Nat) : Int)) * 256 + ((n / 65536 % 256 : Nat) : Int)) ((n / 256 % 256 : Nat) : Int) (by omega) (by omega) (by omega) (by omega)
  have h5 := num_step ((((0 * 256 + ((n / 4294967296 % 256 : Nat) : Int)) * 256 + ((n / 16777216 % 256 : Nat) : Int)) * 256 + ((n / 65536 % 256 : Nat) : Int)) * 256 + ((n / 256 % 256 : Nat) : Int)) ((n % 256 : Nat) : Int) (by omega) (by omega) (by omega) (by omega)
  rw [h1, h2, h3, h4, h5]
  clear h1 h2 h3 h4 h5
  have e1 : n / 65536 = n / 256 / 256 := by rw [Nat.div_div_eq_div_mul]
  have e2 : n / 16777216 = n / 256 / 256 / 256 := by rw [Nat.div_div_eq_div_mul, Nat.div_div_eq_div_mul]
  have e3 : n / 4294967296 = n / 256 / 256 / 256 / 256 := by rw [Nat.div_div_eq_div_mul, Nat.div_div_eq_div_mul, Nat.div_div_eq_div_mul]
  rw [e1, e2, e3]
  have a0 : n = 256 * (n / 256) + n % 256 := by omega
  generalize n / 256 = q at *
  have a1 : q = 256 * (q / 256) + q % 256 := by omega
  generalize q / 256 = u at *
  have a2 : u = 256 * (u / 256) + u % 256 := by omega
  generalize u / 256 = v at *
  have a3 : v / 256 < 256 := by clear e1 e2 e3; omega
  omega
theorem rbytes_err (s : ByteArray) (e a : Int) (he : e ≠ 0) : num_Reader_Bytes.f s e a = some ((⟨#[]⟩ : ByteArray), s, e) := by
  unfold num_Reader_Bytes.f
  by_cases h : a < 0
  · rw [if_pos h, fail_told, if_neg he]
    simp only [Option.bind_some]
    rw [if_neg he]
  · rw [if_neg h]
    simp only [num_Reader_Left.f, Option.bind_some]
    by_cases h2 : a > (s.size : Int)
    · rw [if_pos h2, fail_told, if_neg he]
      simp only [Option.bind_some]
      rw [if_neg he]
    · rw [if_neg h2, if_neg he]
theorem rbytes_ok (s : ByteArray) (a : Nat) (h : a ≤ s.size) : num_Reader_Bytes.f s 0 a = some (s.extract 0 a, s.extract a s.size, 0) := by
  unfold num_Reader_Bytes.f
  rw [if_neg (by omega)]
  simp only [num_Reader_Left.f, Option.bind_some]
  rw [if_neg (by omega)]
  simp only [if_true]
  rw [if_pos (by omega), if_pos (by omega)]
  simp
theorem rbytes_end (s : ByteArray) (a : Nat) (h : s.size < a) : num_Reader_Bytes.f s 0 a = some ((⟨#[]⟩ : ByteArray), s, 10) := by
  unfold num_Reader_Bytes.f
  rw [if_neg (by omega)]
  simp only [num_Reader_Left.f, Option.bind_some]
  rw [if_pos (by omega), fail_told, if_pos rfl]
  simp only [Option.bind_some]
  rw [if_neg (by decide)]
theorem rfixed_err (s : ByteArray) (e a : Int) (he : e ≠ 0) : num_Reader_Fixed.f s e a = some (0, s, e) := by
  unfold num_Reader_Fixed.f
  have h1 : (if a < 1 ∨ a > 7 then num_Reader_Fail.f s e 1 else some (s, e)) = some (s, e) := by
    rw [fail_told, if_neg he]; split <;> rfl
  rw [h1]
  simp only [Option.bind_some]
  rw [rbytes_err s e a he]
  rfl
theorem rtext_err {k : Nat} (hk : 11 ≤ k) (s : ByteArray) (e a : Int) (he : e ≠ 0) : num_Reader_Text.f k s e a = some ((⟨#[]⟩ : ByteArray), s, e) := by
  unfold num_Reader_Text.f
  rw [rshort_err hk s e a he]
  simp only [Option.bind_some]
  rw [rbytes_err s e 0 he]
  simp only [Option.bind_some]
  rw [if_neg he]
theorem ext_take (s : ByteArray) (a : Nat) : bytesOf (s.extract 0 a) = (bytesOf s).take a := by rw [bytesOf_extract]; simp
theorem ext_drop (s : ByteArray) (a : Nat) : bytesOf (s.extract a s.size) = (bytesOf s).drop a := by
  rw [bytesOf_extract, List.take_of_length_le]
  rw [List.length_drop, bytesOf_size]
  exact Nat.le_refl _
theorem fixed_ok (n : Nat) (h : n < 1099511627776) (s : ByteArray) (more : List Int) (hs : bytesOf s = fix5 n ++ more) :
    ∃ s', num_Reader_Fixed.f s 0 5 = some ((n : Int), s', 0) ∧ bytesOf s' = more := by
  have hsz : s.size = 5 + more.length := by rw [size_eq, hs, List.length_append]; rfl
  refine ⟨s.extract 5 s.size, ?_, by rw [ext_drop, hs]; rfl⟩
  unfold num_Reader_Fixed.f
  rw [if_neg (by omega)]
  simp only [Option.bind_some]
  rw [show num_Reader_Bytes.f s 0 5 = _ from rbytes_ok s 5 (by omega)]
  simp only [Option.bind_some]
  have e1 : bytesOf (s.extract 0 5) = fix5 n := by rw [ext_take, hs]; rfl
  rw [e1, num_fix5 n h, if_pos]
  rw [size_eq, e1]; show 5 ≤ _; omega
theorem fixed_cut (n : Nat) (s : ByteArray) (hs : bytesOf s = (fix5 n).dropLast) : num_Reader_Fixed.f s 0 5 = some (0, s, 10) := by
  have hsz : s.size = 4 := by rw [size_eq, hs]; rfl
  unfold num_Reader_Fixed.f
  rw [if_neg (by omega)]
  simp only [Option.bind_some]
  rw [show num_Reader_Bytes.f s 0 5 = _ from rbytes_end s 5 (by omega)]
  rfl
theorem short_ok {k : Nat} (hk : 11 ≤ k) (x : Nat) (most : Int) (h : x < 9223372036854775808) (hm : (x : Int) ≤ most) (s : ByteArray) (more : List Int) (hs : bytesOf s = encS x ++ more) :
    ∃ s', num_Reader_Short.f k s 0 most = some ((x : Int), s', 0) ∧ bytesOf s' = more := by
  have hl := encS_len9 h
  have hsz : s.size = (encS x).length + more.length := by rw [size_eq, hs, List.length_append]
  refine ⟨s.extract (encS x).length s.size, ?_, by rw [ext_drop, hs, List.drop_left]⟩
  refine rshort_ok hk s most x _ ?_ hm (by omega)
  rw [hs, List.take_append, List.take_of_length_le hl, decGo_enc _ _ _ _ _ (by omega)]
  simp
theorem short_cut {k : Nat} (hk : 11 ≤ k) (x : Nat) (most : Int) (h : x < 9223372036854775808) (s : ByteArray) (hs : bytesOf s = (encS x).dropLast) :
    num_Reader_Short.f k s 0 most = some (0, s, 10) := by
  have hl := encS_len9 h
  have hsz : s.size < 9 := by rw [size_eq, hs, List.length_dropLast]; have := encS_pos x; omega
  refine rshort_bad hk s most 0 0 10 ?_ (by decide)
  rw [if_pos hsz, hs, List.take_of_length_le (by rw [List.length_dropLast]; omega), decGo_short]
theorem text_ok {k : Nat} (hk : 11 ≤ k) (t : ByteArray) (most : Int) (h : t.size < 9223372036854775808) (hm : (t.size : Int) ≤ most) (s : ByteArray) (more : List Int) (hs : bytesOf s = (encS t.size ++ bytesOf t) ++ more) :
    ∃ s', num_Reader_Text.f k s 0 most = some (t, s', 0) ∧ bytesOf s' = more := by
  obtain ⟨s1, h1, hb1⟩ := short_ok hk t.size most h hm s (bytesOf t ++ more) (by rw [hs, List.append_assoc])
  have hsz : s1.size = t.size + more.length := by rw [size_eq, hb1, List.length_append, bytesOf_size]
  refine ⟨s1.extract t.size s1.size, ?_, by rw [ext_drop, hb1, List.drop_left' (bytesOf_size t)]⟩
  unfold num_Reader_Text.f
  rw [h1]
  simp only [Option.bind_some]
  rw [rbytes_ok s1 t.size (by omega)]
  simp only [Option.bind_some, if_true]
  have : s1.extract 0 t.size = t := by
    apply bytesOf_inj
    rw [ext_take, hb1, List.take_left' (bytesOf_size t)]
  rw [this]
theorem text_cut {k : Nat} (hk : 11 ≤ k) (t : ByteArray) (most : Int) (h : t.size < 9223372036854775808) (hm : (t.size : Int) ≤ most) (s : ByteArray) (hs : bytesOf s = (encS t.size ++ bytesOf t).dropLast) :
    num_Reader_Text.f k s 0 most = some ((⟨#[]⟩ : ByteArray), s, 10) := by
  unfold num_Reader_Text.f
  by_cases h0 : bytesOf t = []
  · rw [h0, List.append_nil] at hs
    rw [short_cut hk t.size most h s hs]
    simp only [Option.bind_some]
    rw [rbytes_err s 10 0 (by decide)]
    simp only [Option.bind_some]
    rw [if_neg (by decide)]
  · rw [List.dropLast_append_of_ne_nil h0] at hs
    obtain ⟨s1, h1, hb1⟩ := short_ok hk t.size most h hm s _ hs
    have ht : 0 < (bytesOf t).length := List.length_pos_iff.2 h0
    have hsz : s1.size < t.size := by rw [size_eq, hb1, List.length_dropLast, ← bytesOf_size t]; omega
    rw [h1]
    simp only [Option.bind_some]
    rw [rbytes_end s1 t.size hsz]
    simp only [Option.bind_some]
    rw [if_neg (by decide)]

/-- What a reader holds: of whole bytes (c = 0) the rest; of bytes that lack the last one (c = 1) the rest without it, or it has failed. -/
def Inv (c : Int) (rest : List Int) (r : ByteArray) (e : Int) : Prop := (c = 0 ∧ e = 0 ∧ bytesOf r = rest) ∨ (c = 1 ∧ ((e = 0 ∧ rest ≠ [] ∧ bytesOf r = rest.dropLast) ∨ e = 10))
theorem inv_step {c : Int} {item rest : List Int} {r : ByteArray} {e : Int} (hi : Inv c (item ++ rest) r e) {α : Type} {f : ByteArray → Int → Option (α × ByteArray × Int)} {x d : α} (hne : item ≠ [])
    (hok : ∀ (s : ByteArray) (more : List Int), bytesOf s = item ++ more → ∃ s', f s 0 = some (x, s', 0) ∧ bytesOf s' = more)
    (hcut : ∀ s : ByteArray, bytesOf s = item.dropLast → f s 0 = some (d, s, 10)) (herr : ∀ s : ByteArray, f s 10 = some (d, s, 10)) :
    ∃ v r' e', f r e = some (v, r', e') ∧ Inv c rest r' e' ∧ (c = 0 → v = x) := by
  rcases hi with ⟨rfl, rfl, hb⟩ | ⟨rfl, ⟨rfl, hn, hb⟩ | rfl⟩
  · obtain ⟨s', h1, h2⟩ := hok r rest hb
    exact ⟨x, s', 0, h1, .inl ⟨rfl, rfl, h2⟩, fun _ => rfl⟩
  · by_cases h0 : rest = []
    · subst h0
      rw [List.append_nil] at hb
      exact ⟨d, r, 10, hcut r hb, .inr ⟨rfl, .inr rfl⟩, fun h => absurd h (by decide)⟩
    · rw [List.dropLast_append_of_ne_nil h0] at hb
      obtain ⟨s', h1, h2⟩ := hok r _ hb
      exact ⟨x, s', 0, h1, .inr ⟨rfl, .inl ⟨rfl, h0, h2⟩⟩, fun h => absurd h (by decide)⟩
  · exact ⟨d, r, 10, herr r, .inr ⟨rfl, .inr rfl⟩, fun h => absurd h (by decide)⟩

theorem fix5_ne (n : Nat) : fix5 n ≠ [] := by unfold fix5; exact List.cons_ne_nil _ _
theorem encS_ne (n : Nat) : encS n ≠ [] := by intro h; have := encS_pos n; rw [h] at this; simp at this
theorem step_fixed (n : Nat) (h : n < 1099511627776) {c : Int} {rest : List Int} {r : ByteArray} {e : Int} (hi : Inv c (fix5 n ++ rest) r e) : ∃ v r' e', num_Reader_Fixed.f r e 5 = some (v, r', e') ∧ Inv c rest r' e' ∧ (c = 0 → v = (n : Int)) :=
  inv_step hi (f := fun r e => num_Reader_Fixed.f r e 5) (fix5_ne n) (fun s more hs => fixed_ok n h s more hs) (fun s hs => fixed_cut n s hs) (fun s => rfixed_err s 10 5 (by decide))
theorem step_short {k : Nat} (hk : 11 ≤ k) (x : Nat) (h : x < 9223372036854775808) {c : Int} {rest : List Int} {r : ByteArray} {e : Int} (hi : Inv c (encS x ++ rest) r e) : ∃ v r' e', num_Reader_Short.f k r e 9223372036854775807 = some (v, r', e') ∧ Inv c rest r' e' ∧ (c = 0 → v = (x : Int)) :=
  inv_step hi (f := fun r e => num_Reader_Short.f k r e 9223372036854775807) (encS_ne x) (fun s more hs => short_ok hk x _ h (by omega) s more hs) (fun s hs => short_cut hk x _ h s hs) (fun s => rshort_err hk s 10 _ (by decide))
theorem step_text {k : Nat} (hk : 11 ≤ k) (t : ByteArray) (h : t.size ≤ 500) {c : Int} {rest : List Int} {r : ByteArray} {e : Int} (hi : Inv c ((encS t.size ++ bytesOf t) ++ rest) r e) : ∃ v r' e', num_Reader_Text.f k r e 500 = some (v, r', e') ∧ Inv c rest r' e' ∧ (c = 0 → v = t) :=
  inv_step hi (f := fun r e => num_Reader_Text.f k r e 500) (by intro h0; exact encS_ne t.size (List.append_eq_nil_iff.1 h0).1) (fun s more hs => text_ok hk t _ (by omega) (by omega) s more hs) (fun s hs => text_cut hk t _ (by omega) (by omega) s hs) (fun s => rtext_err hk s 10 _ (by decide))

theorem read3 (l : List Int) (t : List ByteArray) (s : ByteArray) (c : Int) (hl : l.length < 100000000000000) (hw : ∀ x ∈ l, -9223372036854775808 ≤ x ∧ x < 9223372036854775808) (W : List Int) (z : List Int) (y u : Int) :
    ∀ (d k i : Nat) (r : ByteArray) (e : Int), 20 ≤ k → min l.length 30 - i = d → i ≤ min l.length 30 → Inv c (((l.take 30).drop i).flatMap wInt ++ W) r e →
    ∃ r' e', Inv c W r' e' ∧ garretlaw01_NumBack.l3 (k + 3 * d + 2) l t s c i z y u r e = garretlaw01_NumBack.l4 k l t s c 0 z y u r' e' := by
  intro d
  induction d with
  | zero =>
    intro k i r e hk hd hi hI
    rw [List.drop_eq_nil_of_le (by rw [List.length_take]; omega)] at hI
    refine ⟨r, e, hI, ?_⟩
    show garretlaw01_NumBack.l3 (k + 1 + 1) l t s c i z y u r e = _
    simp only [garretlaw01_NumBack.l3]
    by_cases hlt : (i : Int) < l.length
    · rw [if_pos hlt, decide_eq_false (by omega)]; simp only [garretlaw01_NumBack.j6]; simp
    · rw [if_neg hlt]; simp only [garretlaw01_NumBack.j6]; simp
  | succ d ih =>
    intro k i r e hk hd hi hI
    have hlt : i < l.length := by omega
    obtain ⟨hx0, hx1⟩ := hw l[i] (List.getElem_mem hlt)
    have hdr : (l.take 30).drop i = l[i] :: (l.take 30).drop (i + 1) := by
      rw [List.drop_eq_getElem_cons (by rw [List.length_take]; omega), List.getElem_take]
    rw [hdr, List.flatMap_cons, List.append_assoc] at hI
    rw [show wInt l[i] = fix5 (among l[i]) ++ (if 0 ≤ l[i] then encS l[i].toNat else []) from rfl, List.append_assoc] at hI
    obtain ⟨v, r1, e1, h1, hI1, hv⟩ := step_fixed _ (among_lt _) hI
    have hrec := fun r e hI => ih k (i + 1) r e hk (by omega) (by omega) hI
    have hk2 : k + 3 * (d + 1) + 2 = (k + 3 * d + 2) + 1 + 1 + 1 := by omega
    have hkK : 20 ≤ k + 3 * d + 2 := by omega
    rw [hk2]
    generalize k + 3 * d + 2 = K at *
    simp only [garretlaw01_NumBack.l3]
    rw [if_pos (by omega), decide_eq_true (by omega)]
    simp only [garretlaw01_NumBack.j6]
    rw [if_pos True.intro, bnd h1]
    dsimp only
    have hj7 : (if c = 0 then (if 0 ≤ (i : Int) then (if (i : Int) < (l.length : Int) then ((garretbook_Among.f (rd l i) 1099511627776).bind fun t217 => (garretlaw01_NumBack.j7 (K + 1) l t s c i z y u (v != t217) r1 e1)) else (none)) else (none)) else (garretlaw01_NumBack.j7 (K + 1) l t s c i z y u false r1 e1)) = garretlaw01_NumBack.j7 (K + 1) l t s c i z y u false r1 e1 := by
      by_cases hc : c = 0
      · rw [if_pos hc, if_pos (by omega), if_pos (by omega), rd_get l i hlt, bnd (among_told _ hx0 hx1), hv hc]
        simp
      · rw [if_neg hc]
    rw [hj7]
    simp only [garretlaw01_NumBack.j7]
    rw [if_neg (by decide), if_pos (by omega), if_pos (by omega), rd_get l i hlt]
    by_cases hneg : l[i] ≥ 0
    · rw [if_pos (by omega)] at hI1
      rw [if_pos hneg]
      obtain ⟨v2, r2, e2, h2, hI2, hv2⟩ := step_short (k := K) (by omega) l[i].toNat (by omega) hI1
      rw [bnd h2, w1 i (by omega)]
      dsimp only
      by_cases hc : c = 0
      · rw [if_pos hc, if_pos (by rw [hv2 hc]; omega)]
        exact hrec r2 e2 hI2
      · rw [if_neg hc]
        exact hrec r2 e2 hI2
    · rw [if_neg (by omega), List.nil_append] at hI1
      rw [if_neg hneg, w1 i (by omega)]
      exact hrec r1 e1 hI1
theorem read4 (l : List Int) (t : List ByteArray) (s : ByteArray) (c : Int) (hl : t.length < 100000000000000) (z : List Int) (y u : Int) :
    ∀ (d k i : Nat) (r : ByteArray) (e : Int), 20 ≤ k → min t.length 30 - i = d → i ≤ min t.length 30 → Inv c (((t.take 30).drop i).flatMap wTxt) r e →
    garretlaw01_NumBack.l4 (k + 2 * d + 2) l t s c i z y u r e = garretlaw01_NumBack.l2 k l t s z y (wrap64 (u + 1)) := by
  intro d
  induction d with
  | zero =>
    intro k i r e hk hd hi hI
    rw [List.drop_eq_nil_of_le (by rw [List.length_take]; omega), List.flatMap_nil] at hI
    show garretlaw01_NumBack.l4 (k + 1 + 1) l t s c i z y u r e = _
    have hend : garretlaw01_NumBack.j9 (k + 1) l t s c i z y u false r e = garretlaw01_NumBack.l2 k l t s z y (wrap64 (u + 1)) := by
      simp only [garretlaw01_NumBack.j9]
      rw [if_neg (by decide)]
      rcases hI with ⟨rfl, rfl, hb⟩ | ⟨rfl, ⟨_, hn, _⟩ | rfl⟩
      · have hsz : r.size = 0 := by rw [size_eq, hb]; rfl
        have he : num_Reader_End.f r 0 = some (0, r, 0) := by
          unfold num_Reader_End.f
          rw [bnd (show num_Reader_Left.f r 0 = some ((r.size : Int), r, 0) from rfl)]
          dsimp only
          rw [if_neg (by omega)]
        rw [if_pos rfl, bnd he]
        dsimp only
        rw [if_pos rfl, if_neg (by decide)]
      · exact absurd rfl hn
      · rw [if_neg (by decide), if_pos rfl, bnd (show num_Reader_Err.f r 10 = some (10, r, 10) from rfl)]
        dsimp only
        rw [if_pos rfl]
    simp only [garretlaw01_NumBack.l4]
    by_cases hlt : (i : Int) < t.length
    · rw [if_pos hlt, decide_eq_false (by omega)]; exact hend
    · rw [if_neg hlt]; exact hend
  | succ d ih =>
    intro k i r e hk hd hi hI
    have hlt : i < t.length := by omega
    have hdr : (t.take 30).drop i = t[i] :: (t.take 30).drop (i + 1) := by
      rw [List.drop_eq_getElem_cons (by rw [List.length_take]; omega), List.getElem_take]
    rw [hdr, List.flatMap_cons] at hI
    rw [show wTxt t[i] = (if t[i].size ≤ 500 then encS t[i].size ++ bytesOf t[i] else []) from rfl] at hI
    have hrec := fun r e hI => ih k (i + 1) r e hk (by omega) (by omega) hI
    have hk2 : k + 2 * (d + 1) + 2 = (k + 2 * d + 2) + 1 + 1 := by omega
    have hkK : 20 ≤ k + 2 * d + 2 := by omega
    rw [hk2]
    generalize k + 2 * d + 2 = K at *
    simp only [garretlaw01_NumBack.l4]
    rw [if_pos (by omega), decide_eq_true (by omega)]
    simp only [garretlaw01_NumBack.j9]
    rw [if_pos True.intro, if_pos (by omega), if_pos (by omega), rdOf_get t i hlt]
    by_cases h5 : t[i].size ≤ 500
    · rw [if_pos h5] at hI
      obtain ⟨v, r1, e1, h1, hI1, hv⟩ := step_text (k := K) (by omega) t[i] h5 hI
      rw [if_pos (by omega), bnd h1, w1 i (by omega)]
      dsimp only
      by_cases hc : c = 0
      · rw [if_pos hc, if_pos (by rw [hv hc])]
        exact hrec r1 e1 hI1
      · rw [if_neg hc]
        exact hrec r1 e1 hI1
    · rw [if_neg h5, List.nil_append] at hI
      rw [if_neg (by omega), w1 i (by omega)]
      exact hrec r e hI

theorem round (l : List Int) (t : List ByteArray) (s : ByteArray) (hl : l.length < 100000000000000) (ht : t.length < 100000000000000) (hw : ∀ x ∈ l, -9223372036854775808 ≤ x ∧ x < 9223372036854775808) (hs : bytesOf s = (l.take 30).flatMap wInt ++ (t.take 30).flatMap wTxt)
    (c : Nat) (hc : c < 2) (k : Nat) (hk : 20 ≤ k) : garretlaw01_NumBack.l2 (k + 2 * min t.length 30 + 2 + 3 * min l.length 30 + 2 + 1) l t s [0, 1] 2 c = some true ∨
      garretlaw01_NumBack.l2 (k + 2 * min t.length 30 + 2 + 3 * min l.length 30 + 2 + 1) l t s [0, 1] 2 c = garretlaw01_NumBack.l2 k l t s [0, 1] 2 ((c + 1 : Nat) : Int) := by
  have hsz : s.size ≤ 20000 := by
    rw [size_eq, hs, List.length_append]
    have h1 := flat_len wInt 15 (l.take 30) (fun x hx => wInt_len x (hw x (List.mem_of_mem_take hx)).2)
    have h2 := flat_len wTxt 510 (t.take 30) (fun x hx => wTxt_len x)
    have h3 : (l.take 30).length ≤ 30 := by rw [List.length_take]; omega
    have h4 : (t.take 30).length ≤ 30 := by rw [List.length_take]; omega
    omega
  have hrd : rd [0, 1] (c : Int) = c := by
    have : c = 0 ∨ c = 1 := by omega
    rcases this with rfl | rfl <;> rfl
  have hread : ∀ r : ByteArray, Inv c ((l.take 30).flatMap wInt ++ (t.take 30).flatMap wTxt) r 0 → garretlaw01_NumBack.l3 (k + 2 * min t.length 30 + 2 + 3 * min l.length 30 + 2) l t s c 0 [0, 1] 2 c r 0 = garretlaw01_NumBack.l2 k l t s [0, 1] 2 ((c + 1 : Nat) : Int) := by
    intro r hI
    obtain ⟨r', e', hI', h3⟩ := read3 l t s c hl hw ((t.take 30).flatMap wTxt) [0, 1] 2 c (min l.length 30) (k + 2 * min t.length 30 + 2) 0 r 0 (by omega) (Nat.sub_zero _) (Nat.zero_le _) hI
    have h4 := read4 l t s c ht [0, 1] 2 c (min t.length 30) k 0 r' e' hk (Nat.sub_zero _) (Nat.zero_le _) hI'
    rw [w1 c (by omega)] at h4
    exact h3.trans h4
  generalize k + 2 * min t.length 30 + 2 + 3 * min l.length 30 + 2 = K at *
  simp only [garretlaw01_NumBack.l2]
  rw [if_pos (by omega), if_pos (by omega), if_pos (by simp; omega), hrd]
  by_cases h0 : (s.size : Int) < c
  · rw [if_pos h0]; exact .inl rfl
  · have e1 : wrap64 ((s.size : Int) - c) = ((s.size - c : Nat) : Int) := by unfold wrap64; omega
    rw [if_neg h0, e1, if_pos (by omega), if_pos (by omega), bnd (show num_Read.f (s.extract 0 ((s.size - c : Nat) : Int).toNat) = some (s.extract 0 ((s.size - c : Nat) : Int).toNat, 0) from rfl)]
    refine .inr (hread _ ?_)
    rw [← hs, Int.toNat_natCast]
    have hcs : c = 0 ∨ c = 1 := by omega
    rcases hcs with rfl | rfl
    · refine .inl ⟨rfl, rfl, ?_⟩
      rw [ext_take, List.take_of_length_le (by rw [bytesOf_size]; omega)]
    · refine .inr ⟨rfl, .inl ⟨rfl, ?_, ?_⟩⟩
      · intro h; have := bytesOf_size s; rw [h] at this; simp at this; omega
      · rw [ext_take, List.dropLast_eq_take, bytesOf_size]
theorem NumBack : garretlaw01_NumBack.Pure := by
  intro l t hl ht
  have hw : ∀ x ∈ l, -9223372036854775808 ≤ x ∧ x < 9223372036854775808 := fun x hx => by
    have := hl.2.2 x hx
    simp [Lit.wf, IntKind.min, IntKind.max, IntKind.bits, IntKind.signed] at this
    omega
  have hl' : l.length < 100000000000000 := by omega
  have ht' : t.length < 100000000000000 := by omega
  obtain ⟨K, hK⟩ : ∃ K, K = 20 + 2 * min t.length 30 + 2 + 3 * min l.length 30 + 2 + 1 := ⟨_, rfl⟩
  obtain ⟨K2, hK2⟩ : ∃ K2, K2 = K + 2 * min t.length 30 + 2 + 3 * min l.length 30 + 2 + 1 := ⟨_, rfl⟩
  obtain ⟨k1, hk1⟩ : ∃ k1, k1 = K2 + 2 * min t.length 30 + 2 := ⟨_, rfl⟩
  obtain ⟨k0, hk0⟩ : ∃ k0, k0 = k1 + 2 * min l.length 30 + 2 := ⟨_, rfl⟩
  have hwk : ∀ k, 10 ≤ k → garretlaw01_works.f k = some true := fun k hk => by
    obtain ⟨d, rfl⟩ : ∃ d, k = 10 + d := ⟨k - 10, by omega⟩
    induction d with
    | zero => exact works_told
    | succ d ih => exact garretlaw01_works.mono _ _ (ih (by omega))
  obtain ⟨s0, hs0, h0⟩ := write0 l t hl' hw (min l.length 30) k1 0 ⟨#[]⟩ (by omega) (Nat.sub_zero _) (Nat.zero_le _) rfl
  have hp : ((l.take 30).flatMap wInt).length ≤ 450 := by
    have h1 := flat_len wInt 15 (l.take 30) (fun x hx => wInt_len x (hw x (List.mem_of_mem_take hx)).2)
    have h3 : (l.take 30).length ≤ 30 := by rw [List.length_take]; omega
    omega
  obtain ⟨s1, hs1, h1⟩ := write1 l t ht' _ hp (min t.length 30) K2 0 s0 (by omega) (Nat.sub_zero _) (Nat.zero_le _) (by rw [hs0]; simp)
  rw [← hk0] at h0
  rw [← hk1] at h1
  have hend : garretlaw01_NumBack.l2 20 l t s1 [0, 1] 2 ((2 : Nat) : Int) = some true := by
    simp only [garretlaw01_NumBack.l2]
    rw [if_neg (by omega)]
  have r0 := round l t s1 hl' ht' hw hs1 0 (by omega) K (by omega)
  have r1 := round l t s1 hl' ht' hw hs1 1 (by omega) 20 (by omega)
  rw [← hK2] at r0
  rw [← hK] at r1
  refine ⟨k0, ?_⟩
  unfold garretlaw01_NumBack.f
  rw [bnd (hwk k0 (by omega)), if_pos rfl]
  refine h0.trans (h1.trans ?_)
  rcases r0 with r0 | r0
  · exact r0
  · refine r0.trans ?_
    rcases r1 with r1 | r1
    · exact r1
    · exact r1.trans hend
end Go.Proofs.Ytfhipccjnmfefaa.Pure
