/- ShaDigits, the plain part: the digits of the document and the program's are one function; so are their answers to any text. -/
import Derived.Test.YtdfhffhnioamhaaDoorQShaDx2
namespace Go.Proofs.YtdfhffhnioamhaaDoor.Pure
open Go.RowKit Go.Proofs.YtdfhffhnioamhaaDoor.QShaD Go.Proofs.YtdfhffhnioamhaaDoorW.PrintWords Go.Proofs.YtdfhffhnioamhaaDoorW.PrintLast
set_option linter.unusedVariables false
set_option maxRecDepth 100000

theorem bnd {α β : Type} {a : Option α} {x : α} {f : α → Option β} (h : a = some x) : a.bind f = f x := by rw [h]; rfl
theorem works_told : garretlaw02_works.f = some true := by decide +kernel
theorem bt_get (s : ByteArray) (i : Nat) (hi : i < s.size) : bt s (i : Int) = (((s.data.toList.getD i 0).toNat : Nat) : Int) := by
  have h : ((i : Int)).toNat < s.size := by omega
  rw [← bt_at s (i : Int) h, List.getD_eq_getElem?_getD, List.getElem?_eq_getElem (show i < s.data.toList.length by rw [data_length]; exact hi)]
  rfl
theorem str_bl (acc : List UInt8) : strOfNums (Sha.bl acc) = ⟨acc.toArray⟩ := by
  unfold strOfNums Sha.bl
  rw [List.map_map]
  congr 2
  have : ((fun n : Int => UInt8.ofNat n.toNat) ∘ fun b : UInt8 => ((b.toNat : Nat) : Int)) = id := by
    funext b
    simp
  rw [this, List.map_id]
theorem digit_all : ∀ c : Fin 256, garretref02_digit.f 1 (c.val : Int) = some (sha_Unhex.dig c.val.toUInt8) := by decide +kernel
theorem digit_told (k : Nat) (c : UInt8) : garretref02_digit.f (k + 1) ((c.toNat : Nat) : Int) = some (sha_Unhex.dig c) := by
  have h := digit_all ⟨c.toNat, c.toNat_lt⟩
  have e : c.toNat.toUInt8 = c := by simp
  have e2 : garretref02_digit.f (k + 1) ((c.toNat : Nat) : Int) = garretref02_digit.f 1 ((c.toNat : Nat) : Int) := by simp only [garretref02_digit.f, garretref02_digit.j0]
  rw [e2]
  simpa [e] using h
theorem byte_all : ∀ x y : Fin 16, wrap64 (wrap64 (16 * (x.val : Int)) + (y.val : Int)) % 256 = (((x.val * 16 + y.val).toUInt8.toNat : Nat) : Int) := by decide +kernel
theorem byte_told (a b : UInt8) (ha : ¬ sha_Unhex.dig a < 0) (hb : ¬ sha_Unhex.dig b < 0) : wrap64 (wrap64 (16 * sha_Unhex.dig a) + sha_Unhex.dig b) % 256 = (((sha_Unhex.byte a b).toNat : Nat) : Int) := by
  have ra := sha_Unhex.dig_range a
  have rb := sha_Unhex.dig_range b
  unfold sha_Unhex.byte
  generalize sha_Unhex.dig a = x at *
  generalize sha_Unhex.dig b = y at *
  obtain ⟨xn, rfl⟩ : ∃ xn : Nat, x = (xn : Int) := ⟨x.toNat, by omega⟩
  obtain ⟨yn, rfl⟩ : ∃ yn : Nat, y = (yn : Int) := ⟨y.toNat, by omega⟩
  have h := byte_all ⟨xn, by omega⟩ ⟨yn, by omega⟩
  simpa using h
theorem go_odd : ∀ (l acc : List UInt8), l.length % 2 = 1 → sha_Unhex.go l acc = (⟨#[]⟩, 3)
  | [], _, h => by simp at h
  | [_], _, _ => rfl
  | a :: b :: r, acc, h => by
    simp only [sha_Unhex.go]
    by_cases c : sha_Unhex.dig a < 0 ∨ sha_Unhex.dig b < 0
    · rw [if_pos c]
    · rw [if_neg c]
      exact go_odd r _ (by simp only [List.length_cons] at h; omega)
theorem bl_snoc (acc : List UInt8) (c : UInt8) : Sha.bl acc ++ [((c.toNat : Nat) : Int)] = Sha.bl (acc ++ [c]) := by rw [Sha.bl_append]; rfl
theorem unhex_loop (s : ByteArray) (hs : s.size ≤ 3000) : ∀ (m i k : Nat) (acc : List UInt8), i + 2 * m = s.size → acc.length ≤ i → m + 2 ≤ k →
    garretref02_Unhex.l0 k s (Sha.bl acc) (i : Int) = some (sha_Unhex.go (s.data.toList.drop i) acc) := by
  intro m
  induction m with
  | zero =>
    intro i k acc hi ha hk
    obtain ⟨k, rfl⟩ : ∃ j, k = j + 1 := ⟨k - 1, by omega⟩
    simp only [garretref02_Unhex.l0]
    rw [if_neg (by omega), str_bl, List.drop_eq_nil_of_le (by rw [data_length]; omega)]
    rfl
  | succ m ih =>
    intro i k acc hi ha hk
    obtain ⟨k, rfl⟩ : ∃ j, k = j + 1 := ⟨k - 1, by omega⟩
    have hl : i < s.data.toList.length := by rw [data_length]; omega
    have hl1 : i + 1 < s.data.toList.length := by rw [data_length]; omega
    have w1 : wrap64 ((i : Int) + 1) = ((i + 1 : Nat) : Int) := by unfold wrap64; omega
    have w2 : wrap64 ((i : Int) + 2) = ((i + 2 : Nat) : Int) := by unfold wrap64; omega
    simp only [garretref02_Unhex.l0]
    rw [w1, w2, if_pos (by omega), if_pos (by omega), bt_get s i (by omega), bt_get s (i + 1) (by omega)]
    have hd : s.data.toList.drop i = s.data.toList.getD i 0 :: s.data.toList.getD (i + 1) 0 :: s.data.toList.drop (i + 2) := by
      rw [List.drop_eq_getElem_cons hl, List.drop_eq_getElem_cons hl1, List.getD_eq_getElem?_getD, List.getElem?_eq_getElem hl, List.getD_eq_getElem?_getD, List.getElem?_eq_getElem hl1]
      rfl
    rw [hd]
    generalize s.data.toList.getD i 0 = a
    generalize s.data.toList.getD (i + 1) 0 = b
    obtain ⟨k, rfl⟩ : ∃ j, k = j + 1 := ⟨k - 1, by omega⟩
    rw [bnd (digit_told k a), if_pos (by omega), if_pos (by omega), bnd (digit_told k b)]
    simp only [sha_Unhex.go]
    by_cases ca : sha_Unhex.dig a < 0
    · rw [if_pos ca, if_pos (Or.inl ca)]
    · by_cases cb : sha_Unhex.dig b < 0
      · rw [if_neg ca, if_pos cb, if_pos (Or.inr cb)]
      · rw [if_neg ca, if_neg cb, if_neg (show ¬ (sha_Unhex.dig a < 0 ∨ sha_Unhex.dig b < 0) from fun h => h.elim ca cb), if_pos (show (Sha.bl acc).length < 140737488355328 by rw [Sha.bl_length]; omega), byte_told a b ca cb, bl_snoc]
        exact ih (i + 2) (k + 1) _ (by omega) (by rw [List.length_append, List.length_singleton]; omega) (by omega)
theorem unhex_told (s : ByteArray) (hs : s.size ≤ 3000) (k : Nat) (hk : 3002 ≤ k) : garretref02_Unhex.f k s = some (sha_Unhex.go s.data.toList []) := by
  unfold garretref02_Unhex.f
  by_cases c : ((s.size : Int) % 2) = 0
  · rw [if_pos c]
    exact unhex_loop s hs (s.size / 2) 0 k [] (by omega) (Nat.le_refl _) (by omega)
  · rw [if_neg c, go_odd s.data.toList [] (by rw [data_length]; omega)]
abbrev HX : ByteArray := ⟨#[48, 49, 50, 51, 52, 53, 54, 55, 56, 57, 97, 98, 99, 100, 101, 102]⟩
theorem hex_all : ∀ c : Fin 256, 0 ≤ (Int.tdiv (c.val : Int) 16) % 256 ∧ (Int.tdiv (c.val : Int) 16) % 256 < 16 ∧ 0 ≤ Int.tmod (c.val : Int) 16 ∧ Int.tmod (c.val : Int) 16 < 16 ∧
    bt HX ((Int.tdiv (c.val : Int) 16) % 256) = (((sha_Hex.hd (c.val / 16)).toNat : Nat) : Int) ∧ bt HX (Int.tmod (c.val : Int) 16) = (((sha_Hex.hd (c.val % 16)).toNat : Nat) : Int) := by decide +kernel
theorem hex_loop (s : ByteArray) (hs : s.size ≤ 3000) : ∀ (m i k : Nat), i + m = s.size → m + 1 ≤ k →
    garretref02_Hex.l0 k s HX (Sha.bl (sha_Hex.hex (s.data.toList.take i))) (i : Int) = some ⟨(sha_Hex.hex s.data.toList).toArray⟩ := by
  intro m
  induction m with
  | zero =>
    intro i k hi hk
    obtain ⟨k, rfl⟩ : ∃ j, k = j + 1 := ⟨k - 1, by omega⟩
    simp only [garretref02_Hex.l0]
    rw [if_neg (by omega), str_bl, List.take_of_length_le (by rw [data_length]; omega)]
  | succ m ih =>
    intro i k hi hk
    obtain ⟨k, rfl⟩ : ∃ j, k = j + 1 := ⟨k - 1, by omega⟩
    have hl : i < s.data.toList.length := by rw [data_length]; omega
    have w1 : wrap64 ((i : Int) + 1) = ((i + 1 : Nat) : Int) := by unfold wrap64; omega
    have htk : sha_Hex.hex (s.data.toList.take (i + 1)) = sha_Hex.hex (s.data.toList.take i) ++ [sha_Hex.hd ((s.data.toList.getD i 0).toNat / 16)] ++ [sha_Hex.hd ((s.data.toList.getD i 0).toNat % 16)] := by
      rw [List.take_succ_eq_append_getElem hl, List.getD_eq_getElem?_getD, List.getElem?_eq_getElem hl]
      simp [sha_Hex.hex]
    have hlen : (sha_Hex.hex (s.data.toList.take i)).length ≤ 6000 := by rw [sha_Hex.hex_length, List.length_take, data_length]; omega
    simp only [garretref02_Hex.l0]
    rw [w1, if_pos (by omega), if_pos (by omega), bt_get s i (by omega)]
    have hih := ih (i + 1) k (by omega) (by omega)
    rw [htk] at hih
    generalize s.data.toList.getD i 0 = c at *
    obtain ⟨q1, q2, q3, q4, q5, q6⟩ := hex_all ⟨c.toNat, c.toNat_lt⟩
    have z : ((HX.size : Nat) : Int) = 16 := rfl
    rw [if_pos q1, if_pos (by rw [z]; exact q2), if_pos q3, if_pos (by rw [z]; exact q4)]
    rw [bnd (x := [bt HX ((Int.tdiv ((c.toNat : Nat) : Int) 16) % 256), bt HX (Int.tmod ((c.toNat : Nat) : Int) 16)]) rfl, if_pos (by rw [Sha.bl_length]; simp only [List.length_cons, List.length_nil]; omega)]
    rw [q5, q6]
    rw [show Sha.bl (sha_Hex.hex (s.data.toList.take i)) ++ [(((sha_Hex.hd (c.toNat / 16)).toNat : Nat) : Int), (((sha_Hex.hd (c.toNat % 16)).toNat : Nat) : Int)] = Sha.bl (sha_Hex.hex (s.data.toList.take i) ++ [sha_Hex.hd (c.toNat / 16)] ++ [sha_Hex.hd (c.toNat % 16)]) by rw [Sha.bl_append, Sha.bl_append, List.append_assoc]; rfl]
    exact hih
theorem hex_told (s : ByteArray) (hs : s.size ≤ 3000) (k : Nat) (hk : 3001 ≤ k) : garretref02_Hex.f k s = some ⟨(sha_Hex.hex s.data.toList).toArray⟩ := by
  unfold garretref02_Hex.f
  exact hex_loop s hs s.size 0 k (by omega) (by omega)
theorem ShaDigits : garretlaw02_ShaDigits.Pure := by
  intro a0 w0
  obtain ⟨k, hk⟩ : ∃ k, k = 4000 := ⟨_, rfl⟩
  refine ⟨k, ?_⟩
  unfold garretlaw02_ShaDigits.f
  by_cases c : (a0.size : Int) > 3000
  · rw [if_pos c, bnd works_told]
  · rw [if_neg c]
    have u : sha_Unhex.f a0 = some (sha_Unhex.go a0.data.toList []) := by unfold sha_Unhex.f; rw [if_pos (by omega)]
    have x : sha_Hex.f a0 = some ⟨(sha_Hex.hex a0.data.toList).toArray⟩ := by unfold sha_Hex.f; rw [if_pos (by omega)]
    rw [bnd u, bnd (unhex_told a0 (by omega) k (by omega)), bnd x, bnd (hex_told a0 (by omega) k (by omega)), if_pos rfl, if_pos rfl, if_pos rfl]
    rw [bnd (show sha_IsId.f a0 = some ((a0.size : Int) == 32) from rfl), bnd (show garretref02_IsId.f a0 = some ((a0.size : Int) == 32) from rfl), if_pos (beq_self_eq_true _), bnd works_told]
end Go.Proofs.YtdfhffhnioamhaaDoor.Pure
