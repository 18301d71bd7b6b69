/- CivilTexts, the plain part: a time's text and a text's time are the document's. -/
import Derived.Test.YtcmpjjbhhehanaaGreatDoorQCivTx10
import Derived.Test.YtcmpjjbhhehanaaGreatDoorZCivTRef
import Derived.Test.YtcmpjjbhhehanaaGreatDoorYCivText
import Derived.Lib.AtoiTie
import Derived.Lib.SplitLaws
namespace Go.Proofs.YtcmpjjbhhehanaaGreatDoor.Pure
open Go.RowKit Go.Proofs.YtcmpjjbhhehanaaGreatDoor.QCivT Go.Proofs.YtcmpjjbhhehanaaGreatDoorW.PrintWords Go.Proofs.YtcmpjjbhhehanaaGreatDoorW.PrintLast Go.Proofs.YtcmpjjbhhehanaaGreatDoorW.PrintMore Go.Proofs.YtcmpjjbhhehanaaGreatDoor.Civ
set_option linter.unusedVariables false

abbrev ba (l : List UInt8) : ByteArray := ⟨l.toArray⟩
theorem ba_list (l : List UInt8) : (ba l).data.toList = l := rfl
theorem ba_size (l : List UInt8) : (ba l).size = l.length := rfl
theorem dig_told (n least : Nat) (hl : least ≤ 100) (hn : n < 10 ^ 6) : civil_digits.f (n : Int) (least : Int) = some (ba (pad n least)) := by
  have h := dec_len 5 n hn
  have := digits_told (n := (n : Int)) (least := (least : Int)) (l := Lib.decDigits n) (itoa_nat n) (by omega) (by omega) (by omega) (by omega) (by omega)
  rw [Int.toNat_natCast] at this
  exact this
/-- The text of a date. -/
def dayL (y m d : Nat) : List UInt8 := pad y 4 ++ 45 :: (pad m 2 ++ 45 :: pad d 2)
def clockL (h mi s : Nat) : List UInt8 := pad h 2 ++ 58 :: (pad mi 2 ++ 58 :: pad s 2)
theorem text_told {t y m d : Nat} {hh mi ss : Nat} (h1 : (t : Int) ≤ 1099511627776) (hd : IsDay (dayOf t) y m d) (hy : y < 100000) (hm : m < 100) (hdd : d < 100) (e1 : (t : Int) % 86400 / 3600 = hh) (e2 : (t : Int) % 86400 / 60 % 60 = mi) (e3 : (t : Int) % 60 = ss)
    (l1 : hh < 100) (l2 : mi < 100) (l3 : ss < 100) {k : Nat} (hk : 300000 ≤ k) :
    civil_Text.f k (t : Int) = some (ba (dayL y m d ++ 32 :: clockL hh mi ss), 0) := by
  have z1 := pad_len y 4 4 (by simpa using hy) (by decide)
  have z2 := pad_len m 2 1 (by simpa using hm) (by decide)
  have z3 := pad_len d 2 1 (by simpa using hdd) (by decide)
  have z4 := pad_len hh 2 1 (by simpa using l1) (by decide)
  have z5 := pad_len mi 2 1 (by simpa using l2) (by decide)
  have z6 := pad_len ss 2 1 (by simpa using l3) (by decide)
  have d1 : civil_digits.f (y : Int) 4 = some (ba (pad y 4)) := dig_told y 4 (by decide) (by omega)
  have d2 : civil_digits.f (m : Int) 2 = some (ba (pad m 2)) := dig_told m 2 (by decide) (by omega)
  have d3 : civil_digits.f (d : Int) 2 = some (ba (pad d 2)) := dig_told d 2 (by decide) (by omega)
  have d4 : civil_digits.f (hh : Int) 2 = some (ba (pad hh 2)) := dig_told hh 2 (by decide) (by omega)
  have d5 : civil_digits.f (mi : Int) 2 = some (ba (pad mi 2)) := dig_told mi 2 (by decide) (by omega)
  have d6 : civil_digits.f (ss : Int) 2 = some (ba (pad ss 2)) := dig_told ss 2 (by decide) (by omega)
  have s1 := ba_size (pad y 4)
  have s2 := ba_size (pad m 2)
  have s3 := ba_size (pad d 2)
  have s4 := ba_size (pad hh 2)
  have s5 := ba_size (pad mi 2)
  have s6 := ba_size (pad ss 2)
  have q1 : (⟨#[45]⟩ : ByteArray).size = 1 := rfl
  have q2 : (⟨#[32]⟩ : ByteArray).size = 1 := rfl
  have q3 : (⟨#[58]⟩ : ByteArray).size = 1 := rfl
  have hfin : ((((((((((ba (pad y 4) ++ (⟨#[45]⟩ : ByteArray)) ++ ba (pad m 2)) ++ (⟨#[45]⟩ : ByteArray)) ++ ba (pad d 2)) ++ (⟨#[32]⟩ : ByteArray)) ++ ba (pad hh 2)) ++ (⟨#[58]⟩ : ByteArray)) ++ ba (pad mi 2)) ++ (⟨#[58]⟩ : ByteArray)) ++ ba (pad ss 2)) = ba (dayL y m d ++ 32 :: clockL hh mi ss) := by
    apply ByteArray.ext
    apply Array.toList_inj.mp
    simp [ba, dayL, clockL]
  unfold civil_Text.f
  rw [bnd (of_told (by omega) h1 hd hk), e1, e2, e3]
  dsimp only
  rw [if_pos rfl]
  rw [bnd d1]
  generalize ba (pad y 4) = A at *
  rw [if_pos (by omega)]
  rw [bnd d2]
  generalize ba (pad m 2) = B at *
  rw [if_pos (by rw [ByteArray.size_append]; omega), if_pos (by rw [ByteArray.size_append, ByteArray.size_append]; omega)]
  rw [bnd d3]
  generalize ba (pad d 2) = C at *
  rw [if_pos (by rw [ByteArray.size_append, ByteArray.size_append, ByteArray.size_append]; omega), if_pos (by rw [ByteArray.size_append, ByteArray.size_append, ByteArray.size_append, ByteArray.size_append]; omega)]
  rw [bnd d4]
  generalize ba (pad hh 2) = D at *
  rw [if_pos (by rw [ByteArray.size_append, ByteArray.size_append, ByteArray.size_append, ByteArray.size_append, ByteArray.size_append]; omega), if_pos (by rw [ByteArray.size_append, ByteArray.size_append, ByteArray.size_append, ByteArray.size_append, ByteArray.size_append, ByteArray.size_append]; omega)]
  rw [bnd d5]
  generalize ba (pad mi 2) = E at *
  rw [if_pos (by rw [ByteArray.size_append, ByteArray.size_append, ByteArray.size_append, ByteArray.size_append, ByteArray.size_append, ByteArray.size_append, ByteArray.size_append]; omega), if_pos (by rw [ByteArray.size_append, ByteArray.size_append, ByteArray.size_append, ByteArray.size_append, ByteArray.size_append, ByteArray.size_append, ByteArray.size_append, ByteArray.size_append]; omega)]
  rw [bnd d6]
  generalize ba (pad ss 2) = F at *
  rw [if_pos (by rw [ByteArray.size_append, ByteArray.size_append, ByteArray.size_append, ByteArray.size_append, ByteArray.size_append, ByteArray.size_append, ByteArray.size_append, ByteArray.size_append, ByteArray.size_append]; omega)]
  rw [hfin]

theorem cut_told (a b : List UInt8) (ha : ∀ x ∈ a, x ≠ 32) (hl : a.length + b.length < 1000) : strings_Cut.f (ba (a ++ 32 :: b)) (⟨#[32]⟩ : ByteArray) = some (ba a, ba b, true) := by
  unfold strings_Cut.f
  rw [if_pos (by show (a ++ 32 :: b).length < _; rw [List.length_append, List.length_cons]; omega)]
  show some ((⟨(Lib.cut (a ++ 32 :: b) [32]).1.toArray⟩ : ByteArray), (⟨(Lib.cut (a ++ 32 :: b) [32]).2.1.toArray⟩ : ByteArray), (Lib.cut (a ++ 32 :: b) [32]).2.2) = _
  rw [cut_at 32 a b ha]
theorem split_told (c : UInt8) (A B C : List UInt8) (hA : ∀ x ∈ A, x ≠ c) (hB : ∀ x ∈ B, x ≠ c) (hC : ∀ x ∈ C, x ≠ c) (hl : A.length + B.length + C.length < 1000) :
    strings_Split.f (ba (A ++ c :: (B ++ c :: C))) (⟨#[c]⟩ : ByteArray) = some [ba A, ba B, ba C] := by
  obtain ⟨h1, h2⟩ := split3 c A B C hA hB hC
  unfold strings_Split.f
  rw [h1, h2, if_pos ⟨by show (A ++ c :: (B ++ c :: C)).length < _; simp only [List.length_append, List.length_cons]; omega, Nat.le_refl _, by decide, rfl⟩]
theorem number_told (n least k : Nat) (hn : n < 10 ^ (k + 1)) (hl : least ≤ k + 1) (hk : k ≤ 10) : civil_number.f (ba (pad n least)) = some (n : Int) := by
  have z := pad_len n least k hn hl
  have h : Lib.atoiAll (pad n least) = .ok (n : Int) := by rw [Lib.atoiAll_short _ (by omega), pad_atoi n least z.2]; rfl
  unfold civil_number.f
  rw [if_pos (by rw [ba_size]; omega), show (ba (pad n least)).data.toList = pad n least from rfl, h]
  dsimp only
  rw [if_pos (pad_trim n least)]
theorem number_any (s : ByteArray) (h : s.size ≤ 281474976710656) : ∃ v, civil_number.f s = some v := by
  unfold civil_number.f
  rw [if_pos h]
  cases Lib.atoiAll s.data.toList with
  | ok v =>
    dsimp only
    split
    · exact ⟨_, rfl⟩
    · exact ⟨_, rfl⟩
  | «syntax» => exact ⟨_, rfl⟩
  | range => exact ⟨_, rfl⟩
theorem dayL_ne (y m d : Nat) : ∀ x ∈ dayL y m d, x ≠ 32 := by
  intro x hx
  unfold dayL at hx
  rw [List.mem_append, List.mem_cons, List.mem_append, List.mem_cons] at hx
  rcases hx with hx | rfl | hx | rfl | hx
  · exact pad_ne _ _ 32 (by decide) x hx
  · decide
  · exact pad_ne _ _ 32 (by decide) x hx
  · decide
  · exact pad_ne _ _ 32 (by decide) x hx
/-- The time of a date's text. -/
theorem parse_told {t y m d : Nat} {hh mi ss : Nat} (y0 : 1970 ≤ y) (y1 : y ≤ 40000) (h1 : (t : Int) ≤ 1099511627776) (hd : IsDay (dayOf t) y m d) (hm : m < 100) (hdd : d < 100) (e1 : (t : Int) % 86400 / 3600 = hh) (e2 : (t : Int) % 86400 / 60 % 60 = mi) (e3 : (t : Int) % 60 = ss)
    {k : Nat} (hk : 300200 ≤ k) :
    civil_Parse.f k (ba (dayL y m d ++ 32 :: clockL hh mi ss)) = some ((t : Int), 0) := by
  have l1 : hh < 24 := by omega
  have l2 : mi < 60 := by omega
  have l3 : ss < 60 := by omega
  have z1 := pad_len y 4 4 (by omega) (by decide)
  have z2 := pad_len m 2 1 (by omega) (by decide)
  have z3 := pad_len d 2 1 (by omega) (by decide)
  have z4 := pad_len hh 2 1 (by omega) (by decide)
  have z5 := pad_len mi 2 1 (by omega) (by decide)
  have z6 := pad_len ss 2 1 (by omega) (by decide)
  have hdl : (dayL y m d).length < 20 := by unfold dayL; simp only [List.length_append, List.length_cons]; omega
  have hcl : (clockL hh mi ss).length < 20 := by unfold clockL; simp only [List.length_append, List.length_cons]; omega
  have hT := text_told (k := k - 1) h1 hd (by omega) hm hdd e1 e2 e3 (by omega) (by omega) (by omega) (by omega)
  have hU := unix_told (wd := 0) (k := k - 1) (show (1970 : Int) ≤ (y : Int) by omega) (by omega) hd (show (0 : Int) ≤ (hh : Int) by omega) (by omega) (show (0 : Int) ≤ (mi : Int) by omega) (by omega) (show (0 : Int) ≤ (ss : Int) by omega) (by omega) (by omega)
  have hsum : (dayOf (t : Int) - 719162) * 86400 + (hh : Int) * 3600 + (mi : Int) * 60 + (ss : Int) = t := by unfold dayOf; omega
  rw [hsum, if_pos h1] at hU
  unfold civil_Parse.f
  rw [bnd (cut_told _ _ (dayL_ne y m d) (by omega))]
  dsimp only
  rw [bnd (show strings_Split.f (ba (dayL y m d)) (⟨#[45]⟩ : ByteArray) = some [ba (pad y 4), ba (pad m 2), ba (pad d 2)] from split_told 45 (pad y 4) (pad m 2) (pad d 2) (pad_ne _ _ _ (by decide)) (pad_ne _ _ _ (by decide)) (pad_ne _ _ _ (by decide)) (by omega))]
  rw [bnd (show strings_Split.f (ba (clockL hh mi ss)) (⟨#[58]⟩ : ByteArray) = some [ba (pad hh 2), ba (pad mi 2), ba (pad ss 2)] from split_told 58 (pad hh 2) (pad mi 2) (pad ss 2) (pad_ne _ _ _ (by decide)) (pad_ne _ _ _ (by decide)) (pad_ne _ _ _ (by decide)) (by omega))]
  obtain ⟨k, rfl⟩ : ∃ q, k = q + 1 := ⟨k - 1, by omega⟩
  rw [Nat.add_sub_cancel] at hT hU
  have n1 := number_told y 4 4 (by omega) (by decide) (by decide)
  have n2 := number_told m 2 1 (by omega) (by decide) (by decide)
  have n3 := number_told d 2 1 (by omega) (by decide) (by decide)
  have n4 := number_told hh 2 1 (by omega) (by decide) (by decide)
  have n5 := number_told mi 2 1 (by omega) (by decide) (by decide)
  have n6 := number_told ss 2 1 (by omega) (by decide) (by decide)
  generalize ba (pad y 4) = A at *
  generalize ba (pad m 2) = B at *
  generalize ba (pad d 2) = C at *
  generalize ba (pad hh 2) = D at *
  generalize ba (pad mi 2) = E at *
  generalize ba (pad ss 2) = F at *
  generalize ba (dayL y m d ++ 32 :: clockL hh mi ss) = S at *
  show civil_Parse.j0 (k + 1) S [A, B, C] [D, E, F] false = _
  show (civil_number.f A).bind _ = _
  rw [bnd n1]
  show (civil_number.f B).bind _ = _
  rw [bnd n2]
  show (civil_number.f C).bind _ = _
  rw [bnd n3]
  show (civil_number.f D).bind _ = _
  rw [bnd n4]
  show (civil_number.f E).bind _ = _
  rw [bnd n5]
  show (civil_number.f F).bind _ = _
  rw [bnd n6, bnd hU, if_pos rfl, bnd hT, if_pos rfl]

/-- The document's digits. -/
theorem dig_one : ∀ d : Fin 10, strOfNums [(wrap64 (48 + (d.val : Int))) % 256] = ba [UInt8.ofNat (48 + d.val)] := by decide +kernel
theorem ba_app (a b : List UInt8) : ba a ++ ba b = ba (a ++ b) := by
  apply ByteArray.ext
  apply Array.toList_inj.mp
  simp [ba]
theorem rdig_step (k n least : Nat) (acc : List UInt8) (hn : n < 10000000) (hl : acc.length < 1000) (hc : 0 < n ∨ acc.length < least) :
    garretref21_digits.l0 (k + 1) (n : Int) (least : Int) (ba acc) = garretref21_digits.l0 k ((n / 10 : Nat) : Int) (least : Int) (ba (UInt8.ofNat (48 + n % 10) :: acc)) := by
  have e1 : Int.tmod (n : Int) 10 = ((n % 10 : Nat) : Int) := rfl
  have e2 : Int.tdiv (n : Int) 10 = ((n / 10 : Nat) : Int) := rfl
  have hd := dig_one ⟨n % 10, by omega⟩
  dsimp only at hd
  have hw : wrap64 ((n / 10 : Nat) : Int) = ((n / 10 : Nat) : Int) := by unfold wrap64; omega
  have hz : (ba [UInt8.ofNat (48 + n % 10)]).size + (ba acc).size ≤ 9223372036854775807 := by rw [ba_size, ba_size]; simp only [List.length_singleton]; omega
  rw [garretref21_digits.l0]
  by_cases h0 : (n : Int) > 0
  · rw [if_pos h0, bnd rfl, e1, e2, hd, if_pos hz, ba_app, hw]
    rfl
  · rw [if_neg h0, if_pos (by rw [ba_size]; omega), bnd rfl, e1, e2, hd, if_pos hz, ba_app, hw]
    rfl
theorem rdig_zero (least : Nat) (hl : least < 100) : ∀ (d k : Nat) (acc : List UInt8), least - acc.length = d → acc.length + d < 200 → d < k → garretref21_digits.l0 k 0 (least : Int) (ba acc) = some (ba (List.replicate d 48 ++ acc)) := by
  intro d
  induction d with
  | zero =>
    intro k acc hd ha hk
    obtain ⟨k, rfl⟩ : ∃ q, k = q + 1 := ⟨k - 1, by omega⟩
    rw [garretref21_digits.l0, if_neg (by decide), if_neg (by rw [ba_size]; omega)]
    rfl
  | succ d ih =>
    intro k acc hd ha hk
    obtain ⟨k, rfl⟩ : ∃ q, k = q + 1 := ⟨k - 1, by omega⟩
    have h := rdig_step k 0 least acc (by decide) (by omega) (.inr (by omega))
    rw [show ((0 : Nat) : Int) = 0 from rfl] at h
    rw [h]
    refine (ih k _ (by rw [List.length_cons]; omega) (by rw [List.length_cons]; omega) (by omega)).trans ?_
    congr 2
    rw [List.replicate_succ', List.append_assoc]
    rfl
theorem rdig_pos (least : Nat) : ∀ (m n k : Nat) (acc : List UInt8), n < 10 ^ (m + 1) → m ≤ 5 → 0 < n → acc.length + m < 100 → m + 1 ≤ k →
    ∃ k', k ≤ k' + m + 1 ∧ garretref21_digits.l0 k (n : Int) (least : Int) (ba acc) = garretref21_digits.l0 k' 0 (least : Int) (ba (Lib.decDigits n ++ acc)) := by
  intro m
  induction m with
  | zero =>
    intro n k acc hn _ h0 ha hk
    obtain ⟨k, rfl⟩ : ∃ q, k = q + 1 := ⟨k - 1, by omega⟩
    have h10 : n < 10 := by simpa using hn
    refine ⟨k, by omega, ?_⟩
    rw [rdig_step k n least acc (by omega) (by omega) (.inl h0), show n / 10 = 0 by omega, show n % 10 = n by omega, Lib.decDigits, dif_pos h10]
    rfl
  | succ m ih =>
    intro n k acc hn hm h0 ha hk
    obtain ⟨k, rfl⟩ : ∃ q, k = q + 1 := ⟨k - 1, by omega⟩
    have hp : (10 : Nat) ^ (m + 1 + 1) = 10 ^ (m + 1) * 10 := Nat.pow_succ 10 (m + 1)
    have hp6 : (10 : Nat) ^ (m + 1) ≤ 10 ^ 6 := Nat.pow_le_pow_right (by decide) (by omega)
    have hstep := rdig_step k n least acc (by omega) (by omega) (.inl h0)
    by_cases h10 : n < 10
    · refine ⟨k, by omega, ?_⟩
      rw [hstep, show n / 10 = 0 by omega, show n % 10 = n by omega, Lib.decDigits, dif_pos h10]
      rfl
    · obtain ⟨k', h1, h2⟩ := ih (n / 10) k (UInt8.ofNat (48 + n % 10) :: acc) (by omega) (by omega) (by omega) (by rw [List.length_cons]; omega) (by omega)
      refine ⟨k', by omega, ?_⟩
      rw [hstep, h2]
      rw [Lib.decDigits.eq_def n, dif_neg h10, List.append_assoc]
      rfl
theorem rdig_told (n least : Nat) (hn : n < 10 ^ 6) (h1 : 1 ≤ least) (h2 : least ≤ 10) {k : Nat} (hk : 100 ≤ k) : garretref21_digits.f k (n : Int) (least : Int) = some (ba (pad n least)) := by
  unfold garretref21_digits.f
  by_cases h0 : 0 < n
  · have hdl := dec_len 5 n hn
    obtain ⟨k', hk', he⟩ := rdig_pos least 5 n k [] hn (by decide) h0 (by decide) (by omega)
    rw [show (⟨#[]⟩ : ByteArray) = ba [] from rfl, he, List.append_nil, rdig_zero least (by omega) (least - (Lib.decDigits n).length) k' _ rfl (by omega) (by omega)]
    rfl
  · obtain rfl : n = 0 := by omega
    rw [show (⟨#[]⟩ : ByteArray) = ba [] from rfl, show ((0 : Nat) : Int) = 0 from rfl, rdig_zero least (by omega) least k [] (by simp) (by rw [List.length_nil]; omega) (by omega)]
    congr 2
    obtain ⟨q, rfl⟩ : ∃ q, least = q + 1 := ⟨least - 1, by omega⟩
    unfold pad
    rw [show Lib.decDigits 0 = [48] by rw [Lib.decDigits, dif_pos (by decide)]; rfl, List.append_nil, List.replicate_succ']
    rfl
theorem rtext_told {t y m d : Nat} {hh mi ss : Nat} (h1 : (t : Int) ≤ 1099511627776) (hd : IsDay (dayOf t) y m d) (hy : y < 100000) (hm : m < 100) (hdd : d < 100) (e1 : (t : Int) % 86400 / 3600 = hh) (e2 : (t : Int) % 86400 / 60 % 60 = mi) (e3 : (t : Int) % 60 = ss)
    (l1 : hh < 100) (l2 : mi < 100) (l3 : ss < 100) {k : Nat} (hk : 300000 ≤ k) :
    garretref21_Text.f k (t : Int) = some (ba (dayL y m d ++ 32 :: clockL hh mi ss), 0) := by
  have z1 := pad_len y 4 4 (by simpa using hy) (by decide)
  have z2 := pad_len m 2 1 (by simpa using hm) (by decide)
  have z3 := pad_len d 2 1 (by simpa using hdd) (by decide)
  have z4 := pad_len hh 2 1 (by simpa using l1) (by decide)
  have z5 := pad_len mi 2 1 (by simpa using l2) (by decide)
  have z6 := pad_len ss 2 1 (by simpa using l3) (by decide)
  have d1 : garretref21_digits.f k (y : Int) 4 = some (ba (pad y 4)) := rdig_told y 4 (by omega) (by decide) (by decide) (by omega)
  have d2 : garretref21_digits.f k (m : Int) 2 = some (ba (pad m 2)) := rdig_told m 2 (by omega) (by decide) (by decide) (by omega)
  have d3 : garretref21_digits.f k (d : Int) 2 = some (ba (pad d 2)) := rdig_told d 2 (by omega) (by decide) (by decide) (by omega)
  have d4 : garretref21_digits.f k (hh : Int) 2 = some (ba (pad hh 2)) := rdig_told hh 2 (by omega) (by decide) (by decide) (by omega)
  have d5 : garretref21_digits.f k (mi : Int) 2 = some (ba (pad mi 2)) := rdig_told mi 2 (by omega) (by decide) (by decide) (by omega)
  have d6 : garretref21_digits.f k (ss : Int) 2 = some (ba (pad ss 2)) := rdig_told ss 2 (by omega) (by decide) (by decide) (by omega)
  have s1 := ba_size (pad y 4)
  have s2 := ba_size (pad m 2)
  have s3 := ba_size (pad d 2)
  have s4 := ba_size (pad hh 2)
  have s5 := ba_size (pad mi 2)
  have s6 := ba_size (pad ss 2)
  have q1 : (⟨#[45]⟩ : ByteArray).size = 1 := rfl
  have q2 : (⟨#[32]⟩ : ByteArray).size = 1 := rfl
  have q3 : (⟨#[58]⟩ : ByteArray).size = 1 := rfl
  have hfin : ((((((((((ba (pad y 4) ++ (⟨#[45]⟩ : ByteArray)) ++ ba (pad m 2)) ++ (⟨#[45]⟩ : ByteArray)) ++ ba (pad d 2)) ++ (⟨#[32]⟩ : ByteArray)) ++ ba (pad hh 2)) ++ (⟨#[58]⟩ : ByteArray)) ++ ba (pad mi 2)) ++ (⟨#[58]⟩ : ByteArray)) ++ ba (pad ss 2)) = ba (dayL y m d ++ 32 :: clockL hh mi ss) := by
    apply ByteArray.ext
    apply Array.toList_inj.mp
    simp [ba, dayL, clockL]
  unfold garretref21_Text.f
  rw [bnd (rof_told (by omega) h1 hd (by omega)), e1, e2, e3]
  dsimp only
  rw [if_pos rfl]
  rw [bnd d1]
  generalize ba (pad y 4) = A at *
  rw [if_pos (by omega)]
  rw [bnd d2]
  generalize ba (pad m 2) = B at *
  rw [if_pos (by rw [ByteArray.size_append]; omega), if_pos (by rw [ByteArray.size_append, ByteArray.size_append]; omega)]
  rw [bnd d3]
  generalize ba (pad d 2) = C at *
  rw [if_pos (by rw [ByteArray.size_append, ByteArray.size_append, ByteArray.size_append]; omega), if_pos (by rw [ByteArray.size_append, ByteArray.size_append, ByteArray.size_append, ByteArray.size_append]; omega)]
  rw [bnd d4]
  generalize ba (pad hh 2) = D at *
  rw [if_pos (by rw [ByteArray.size_append, ByteArray.size_append, ByteArray.size_append, ByteArray.size_append, ByteArray.size_append]; omega), if_pos (by rw [ByteArray.size_append, ByteArray.size_append, ByteArray.size_append, ByteArray.size_append, ByteArray.size_append, ByteArray.size_append]; omega)]
  rw [bnd d5]
  generalize ba (pad mi 2) = E at *
  rw [if_pos (by rw [ByteArray.size_append, ByteArray.size_append, ByteArray.size_append, ByteArray.size_append, ByteArray.size_append, ByteArray.size_append, ByteArray.size_append]; omega), if_pos (by rw [ByteArray.size_append, ByteArray.size_append, ByteArray.size_append, ByteArray.size_append, ByteArray.size_append, ByteArray.size_append, ByteArray.size_append, ByteArray.size_append]; omega)]
  rw [bnd d6]
  generalize ba (pad ss 2) = F at *
  rw [if_pos (by rw [ByteArray.size_append, ByteArray.size_append, ByteArray.size_append, ByteArray.size_append, ByteArray.size_append, ByteArray.size_append, ByteArray.size_append, ByteArray.size_append, ByteArray.size_append]; omega)]
  rw [hfin]
/-- The document's number. -/
theorem bt_ba (l : List UInt8) (i : Nat) (hi : i < l.length) : bt (ba l) (i : Int) = ((l[i].toNat : Nat) : Int) := by
  unfold bt
  rw [dif_pos (show ((i : Int)).toNat < (ba l).size by rw [ba_size]; omega)]
  rfl
theorem rnum_loop (l : List UInt8) (hl : l.length ≤ 12) : ∀ (d i k acc r : Nat), i + d = l.length → (∀ x ∈ l, Dig x) → acc < 10 ^ i → Lib.decFrom acc (l.drop i) = some r → d < k → garretref21_num.l0 k (ba l) (acc : Int) (i : Int) = some (r : Int) := by
  intro d
  induction d with
  | zero =>
    intro i k acc r hi hdg ha hr hk
    obtain ⟨k, rfl⟩ : ∃ q, k = q + 1 := ⟨k - 1, by omega⟩
    rw [List.drop_eq_nil_of_le (by omega)] at hr
    simp only [Lib.decFrom, Option.some.injEq] at hr
    rw [garretref21_num.l0, if_neg (by rw [ba_size]; omega), hr]
  | succ d ih =>
    intro i k acc r hi hdg ha hr hk
    obtain ⟨k, rfl⟩ : ∃ q, k = q + 1 := ⟨k - 1, by omega⟩
    have hlt : i < l.length := by omega
    have hx := hdg l[i] (List.getElem_mem hlt)
    unfold Dig at hx
    have hp : (10 : Nat) ^ i ≤ 10 ^ 12 := Nat.pow_le_pow_right (by decide) (by omega)
    rw [List.drop_eq_getElem_cons hlt] at hr
    simp only [Lib.decFrom, Lib.digitVal] at hr
    rw [if_pos hx] at hr
    have g1 : (i : Int) < ((ba l).size : Int) := by rw [ba_size]; omega
    have g2 : (0 : Int) ≤ (i : Int) := by omega
    have g3 : ¬ ((l[i].toNat : Nat) : Int) < 48 := by omega
    have g4 : ¬ ((l[i].toNat : Nat) : Int) > 57 := by omega
    have g5 : acc * 10 + (l[i].toNat - 48) < 10 ^ (i + 1) := by rw [Nat.pow_succ]; omega
    have g6 : i + 1 + d = l.length := by omega
    have g7 : d < k := by omega
    have e1 : wrap64 ((acc : Int) * 10) = ((acc * 10 : Nat) : Int) := by unfold wrap64; omega
    have E1 := Aside0.mk e1
    clear e1
    have e2 : (((l[i].toNat : Nat) : Int) - 48) % 256 = ((l[i].toNat - 48 : Nat) : Int) := by omega
    have E2 := Aside0.mk e2
    clear e2
    have e3 : wrap64 (((acc * 10 : Nat) : Int) + ((l[i].toNat - 48 : Nat) : Int)) = ((acc * 10 + (l[i].toNat - 48) : Nat) : Int) := by unfold wrap64; omega
    have E3 := Aside0.mk e3
    clear e3
    have e4 : wrap64 ((i : Int) + 1) = ((i + 1 : Nat) : Int) := by unfold wrap64; omega
    rw [garretref21_num.l0, if_pos g1, if_pos g2, bt_ba l i hlt, if_neg g3, if_neg g4, E1.out, E2.out, E3.out, e4]
    exact ih (i + 1) k _ r g6 hdg g5 hr g7
theorem rnum_told (n least k : Nat) (hn : n < 10 ^ (k + 1)) (hl : least ≤ k + 1) (hk : k ≤ 10) {q : Nat} (hq : 20 ≤ q) : garretref21_num.f q (ba (pad n least)) = some (n : Int) := by
  have z := pad_len n least k hn hl
  have h : Lib.decFrom 0 (pad n least) = some n := by
    unfold pad
    rw [decFrom_zeros, decFrom_dec n n (Nat.le_refl _)]
  unfold garretref21_num.f
  exact rnum_loop (pad n least) (by omega) (pad n least).length 0 q 0 n (by omega) (pad_dig n least) (by decide) h (by omega)
theorem rnum_any (s : ByteArray) (hs : s.size ≤ 100) : ∀ (d i k : Nat) (acc : Int), i + d = s.size → d < k → ∃ v, garretref21_num.l0 k s acc (i : Int) = some v := by
  intro d
  induction d with
  | zero =>
    intro i k acc hi hk
    obtain ⟨k, rfl⟩ : ∃ q, k = q + 1 := ⟨k - 1, by omega⟩
    exact ⟨acc, by rw [garretref21_num.l0, if_neg (by omega)]⟩
  | succ d ih =>
    intro i k acc hi hk
    obtain ⟨k, rfl⟩ : ∃ q, k = q + 1 := ⟨k - 1, by omega⟩
    have e4 : wrap64 ((i : Int) + 1) = ((i + 1 : Nat) : Int) := by unfold wrap64; omega
    rw [garretref21_num.l0, if_pos (by omega), if_pos (by omega), e4]
    split
    · exact ⟨_, rfl⟩
    · split
      · exact ⟨_, rfl⟩
      · exact ih (i + 1) k _ (by omega) (by omega)
theorem rnum_some (s : ByteArray) (hs : s.size ≤ 100) {k : Nat} (hk : 200 ≤ k) : ∃ v, garretref21_num.f k s = some v := rnum_any s hs s.size 0 k 0 (by omega) (by omega)
/-- A text that is some time's. -/
structure Is (s : ByteArray) (t y m d hh mi ss : Nat) : Prop where
  mx : (t : Int) ≤ 1099511627776
  day : IsDay (dayOf t) y m d
  y0 : 1970 ≤ y
  y1 : y ≤ 40000
  hm : m < 100
  hd : d < 100
  e1 : (t : Int) % 86400 / 3600 = hh
  e2 : (t : Int) % 86400 / 60 % 60 = mi
  e3 : (t : Int) % 60 = ss
  eq : s = ba (dayL y m d ++ 32 :: clockL hh mi ss)
theorem is_there (t : Int) (t0 : 0 ≤ t) (t1 : t ≤ 1099511627776) : ∃ T y m d hh mi ss : Nat, t = T ∧ Is (ba (dayL y m d ++ 32 :: clockL hh mi ss)) T y m d hh mi ss := by
  obtain ⟨y, m, d, h⟩ := date_there t0
  have hyr := h.year
  have h1y := h.1
  have h1m := h.2.1
  have h2m := h.2.2.1
  have h1d := h.2.2.2.1
  have h2d := h.2.2.2.2.1
  have hmb := mdays_bounds y m
  have hn0 : 719162 ≤ dayOf t := by unfold dayOf; omega
  have hn1 : dayOf t ≤ 13445000 := by unfold dayOf; omega
  have y0 : 1970 ≤ y := by
    by_cases c : 1970 ≤ y
    · exact c
    · have := bef_mono (show y + 1 ≤ 1970 by omega)
      rw [bef_1970] at this
      omega
  have y1 : y ≤ 40000 := by
    by_cases c : y ≤ 40000
    · exact c
    · have := bef_mono (show 40001 ≤ y by omega)
      have h4 : bef 40001 = 14609700 := by decide
      omega
  obtain ⟨T, rfl⟩ : ∃ T : Nat, t = T := ⟨t.toNat, by omega⟩
  obtain ⟨Y, rfl⟩ : ∃ Y : Nat, y = Y := ⟨y.toNat, by omega⟩
  obtain ⟨M, rfl⟩ : ∃ Y : Nat, m = Y := ⟨m.toNat, by omega⟩
  obtain ⟨D, rfl⟩ : ∃ Y : Nat, d = Y := ⟨d.toNat, by omega⟩
  obtain ⟨H, e1⟩ : ∃ Y : Nat, (T : Int) % 86400 / 3600 = Y := ⟨((T : Int) % 86400 / 3600).toNat, by omega⟩
  obtain ⟨I, e2⟩ : ∃ Y : Nat, (T : Int) % 86400 / 60 % 60 = Y := ⟨((T : Int) % 86400 / 60 % 60).toNat, by omega⟩
  obtain ⟨S, e3⟩ : ∃ Y : Nat, (T : Int) % 60 = Y := ⟨((T : Int) % 60).toNat, by omega⟩
  exact ⟨T, Y, M, D, H, I, S, rfl, by omega, h, by omega, by omega, by omega, by omega, e1, e2, e3, rfl⟩
theorem Is.text {s : ByteArray} {t y m d hh mi ss : Nat} (h : Is s t y m d hh mi ss) {k : Nat} (hk : 300000 ≤ k) : civil_Text.f k (t : Int) = some (s, 0) := by
  have := h.e1; have := h.e2; have := h.e3; have := h.y1
  rw [h.eq]
  exact text_told h.mx h.day (by omega) h.hm h.hd h.e1 h.e2 h.e3 (by omega) (by omega) (by omega) hk
theorem Is.rtext {s : ByteArray} {t y m d hh mi ss : Nat} (h : Is s t y m d hh mi ss) {k : Nat} (hk : 300000 ≤ k) : garretref21_Text.f k (t : Int) = some (s, 0) := by
  have := h.e1; have := h.e2; have := h.e3; have := h.y1
  rw [h.eq]
  exact rtext_told h.mx h.day (by omega) h.hm h.hd h.e1 h.e2 h.e3 (by omega) (by omega) (by omega) hk
theorem Is.parse {s : ByteArray} {t y m d hh mi ss : Nat} (h : Is s t y m d hh mi ss) {k : Nat} (hk : 300200 ≤ k) : civil_Parse.f k s = some ((t : Int), 0) := by
  rw [h.eq]
  exact parse_told h.y0 h.y1 h.mx h.day h.hm h.hd h.e1 h.e2 h.e3 hk
theorem text_no {t : Int} (h : ¬ (0 ≤ t ∧ t ≤ 1099511627776)) (k : Nat) : civil_Text.f k t = some ((⟨#[]⟩ : ByteArray), 1) := by
  unfold civil_Text.f
  rw [bnd (of_no h k)]
  dsimp only
  rw [if_neg (by decide)]
theorem rtext_no {t : Int} (h : ¬ (0 ≤ t ∧ t ≤ 1099511627776)) (k : Nat) : garretref21_Text.f k t = some ((⟨#[]⟩ : ByteArray), 1) := by
  unfold garretref21_Text.f
  rw [bnd (rof_no h k)]
  dsimp only
  rw [if_neg (by decide)]
/-- What both Unix tell: some time that may be, or nothing. -/
theorem unix_any (y m d h mi s : Int) {k : Nat} (hk : 300100 ≤ k) :
    (∃ t : Int, 0 ≤ t ∧ t ≤ 1099511627776 ∧ civil_Unix.f k y m d h mi s 0 = some (t, 0) ∧ garretref21_Unix.f k y m d h mi s 0 = some (t, 0)) ∨ (civil_Unix.f k y m d h mi s 0 = some (0, 210) ∧ garretref21_Unix.f k y m d h mi s 0 = some (0, 210)) := by
  by_cases r : Right y m d h mi s
  · obtain ⟨r1, r2, r3, r4, r5, r6, r7, r8, r9, r10, r11, r12⟩ := r
    have hd : IsDay (bef y + cum y m + d - 1) y m d := ⟨by omega, r3, r4, r5, r6, rfl⟩
    have hyr := hd.year
    have hlo := bef_mono r1
    rw [bef_1970] at hlo
    have h1 := unix_told (wd := 0) (k := k) r1 r2 hd r7 r8 r9 r10 r11 r12 hk
    have h2 := runix_told (wd := 0) (k := k) r1 r2 hd r7 r8 r9 r10 r11 r12 (by omega)
    generalize bef y + cum y m + d - 1 = n at *
    by_cases hm : (n - 719162) * 86400 + h * 3600 + mi * 60 + s ≤ 1099511627776
    · rw [if_pos hm] at h1 h2
      exact .inl ⟨_, by omega, hm, h1, h2⟩
    · rw [if_neg hm] at h1 h2
      exact .inr ⟨h1, h2⟩
  · exact .inr ⟨unix_no 0 r k, runix_no 0 r (by omega)⟩
theorem ext_le (s : ByteArray) (i j : Nat) : (s.extract i j).size ≤ s.size := by rw [ByteArray.size_extract]; omega
theorem split_sizes (sep : ByteArray) : ∀ (k : Nat) (s : ByteArray), ∀ x ∈ Lib.splitB sep 0 k s, x.size ≤ s.size
  | 0, s, x, h => by
    rw [Lib.splitB_zero] at h
    rw [List.mem_singleton.1 h]; exact Nat.le_refl _
  | k + 1, s, x, h => by
    unfold Lib.splitB at h
    split at h
    · rw [List.mem_singleton.1 h]; exact Nat.le_refl _
    · rcases List.mem_cons.1 h with rfl | h
      · exact ext_le _ _ _
      · exact Nat.le_trans (split_sizes sep k _ x h) (ext_le _ _ _)
theorem split_any (s sep : ByteArray) (h1 : 1 ≤ sep.size) (hs : s.size ≤ 1048576) : ∃ L, strings_Split.f s sep = some L ∧ ∀ x ∈ L, x.size ≤ s.size := by
  have h2 := Lib.countB_le sep h1 s.size s (Nat.le_refl _)
  unfold strings_Split.f
  rw [if_pos ⟨by omega, h1, by omega, Lib.splitB_all sep h1 0 _ s rfl⟩]
  exact ⟨_, rfl, split_sizes sep _ s⟩
theorem cut_any (s : ByteArray) (hs : s.size ≤ 1048576) : ∃ a b c, strings_Cut.f s (⟨#[32]⟩ : ByteArray) = some (a, b, c) ∧ a.size ≤ s.size ∧ b.size ≤ s.size := by
  unfold strings_Cut.f
  rw [if_pos (by omega)]
  refine ⟨_, _, _, rfl, ?_, ?_⟩
  · show (Lib.cut s.data.toList [32]).1.length ≤ s.data.toList.length
    unfold Lib.cut
    split
    · show (List.take _ _).length ≤ _
      rw [List.length_take]; omega
    · exact Nat.le_refl _
  · show (Lib.cut s.data.toList [32]).2.1.length ≤ s.data.toList.length
    unfold Lib.cut
    split
    · show (List.drop _ _).length ≤ _
      rw [List.length_drop]; omega
    · exact Nat.zero_le _
theorem rd3 (L : List ByteArray) (b : Nat) (h : ∀ x ∈ L, x.size ≤ b) (hl : L.length = 3) : ∃ x y z, L = [x, y, z] ∧ x.size ≤ b ∧ y.size ≤ b ∧ z.size ≤ b := by
  match L, hl with
  | [x, y, z], _ => exact ⟨x, y, z, rfl, h x (by simp), h y (by simp), h z (by simp)⟩
/-- Any text's time: some time whose text it is; or none. -/
theorem parse_any (s : ByteArray) (hs : s.size ≤ 1048576) {k : Nat} (hk : 300300 ≤ k) : (∃ t y m d hh mi ss : Nat, Is s t y m d hh mi ss) ∨ civil_Parse.f k s = some (0, 210) := by
  obtain ⟨a, b, c, hc, ha, hb⟩ := cut_any s hs
  obtain ⟨D, hD, hDs⟩ := split_any a (⟨#[45]⟩ : ByteArray) (by decide) (by omega)
  obtain ⟨C, hC, hCs⟩ := split_any b (⟨#[58]⟩ : ByteArray) (by decide) (by omega)
  obtain ⟨k, rfl⟩ : ∃ q, k = q + 1 := ⟨k - 1, by omega⟩
  have hj : civil_Parse.j0 (k + 1) s D C true = some (0, 210) := by rw [civil_Parse.j0, if_pos rfl]
  unfold civil_Parse.f
  rw [bnd hc]
  dsimp only
  rw [bnd hD, bnd hC]
  by_cases h3 : (D.length : Int) = 3
  · rw [if_pos h3]
    by_cases h4 : (C.length : Int) = 3
    · obtain ⟨x1, x2, x3, rfl, b1, b2, b3⟩ := rd3 D _ hDs (by omega)
      obtain ⟨x4, x5, x6, rfl, b4, b5, b6⟩ := rd3 C _ hCs (by omega)
      obtain ⟨v1, n1⟩ := number_any x1 (by omega)
      obtain ⟨v2, n2⟩ := number_any x2 (by omega)
      obtain ⟨v3, n3⟩ := number_any x3 (by omega)
      obtain ⟨v4, n4⟩ := number_any x4 (by omega)
      obtain ⟨v5, n5⟩ := number_any x5 (by omega)
      obtain ⟨v6, n6⟩ := number_any x6 (by omega)
      have key : civil_Parse.j0 (k + 1) s [x1, x2, x3] [x4, x5, x6] (([x4, x5, x6].length : Int) != 3) = (civil_Unix.f k v1 v2 v3 v4 v5 v6 0).bind fun bt196 => (if bt196.2 = 0 then ((civil_Text.f k bt196.1).bind fun bt198 => (if bt198.1.toList = s.toList then (some (bt196.1, 0)) else (some (0, 210)))) else (some (0, bt196.2))) := by
        show (civil_number.f x1).bind _ = _
        rw [bnd n1]
        show (civil_number.f x2).bind _ = _
        rw [bnd n2]
        show (civil_number.f x3).bind _ = _
        rw [bnd n3]
        show (civil_number.f x4).bind _ = _
        rw [bnd n4]
        show (civil_number.f x5).bind _ = _
        rw [bnd n5]
        show (civil_number.f x6).bind _ = _
        rw [bnd n6]
      rw [key]
      rcases unix_any v1 v2 v3 v4 v5 v6 (k := k) (by omega) with ⟨t, t0, t1, hu, _⟩ | ⟨hu, _⟩
      · rw [bnd hu]
        dsimp only
        rw [if_pos rfl]
        obtain ⟨T, y, m, d, hh, mi, ss, rfl, hi⟩ := is_there t t0 t1
        rw [bnd (hi.text (by omega))]
        dsimp only
        by_cases he : (ba (dayL y m d ++ 32 :: clockL hh mi ss)).toList = s.toList
        · left
          have he2 : s = ba (dayL y m d ++ 32 :: clockL hh mi ss) := by
            rw [ByteArray.toList_eq, ByteArray.toList_eq] at he
            exact (ByteArray.ext (Array.toList_inj.mp he)).symm
          exact ⟨T, y, m, d, hh, mi, ss, hi.mx, hi.day, hi.y0, hi.y1, hi.hm, hi.hd, hi.e1, hi.e2, hi.e3, he2⟩
        · rw [if_neg he]; exact .inr rfl
      · rw [bnd hu]
        dsimp only
        rw [if_neg (by decide)]
        exact .inr rfl
    · rw [show ((C.length : Int) != 3) = true by rw [bne_iff_ne]; exact h4]
      exact .inr hj
  · rw [if_neg h3]; exact .inr hj
theorem pad2 (n : Nat) (h : n < 100) : ∃ a b, pad n 2 = [a, b] := by
  have hl := dec_len 1 n (by omega)
  have : (pad n 2).length = 2 := by unfold pad; rw [List.length_append, List.length_replicate]; omega
  match hp : pad n 2, this with
  | [a, b], _ => exact ⟨a, b, rfl⟩
theorem ba_ext (l : List UInt8) (i j : Nat) : (ba l).extract i j = ba ((l.take j).drop i) := by
  apply ByteArray.ext
  apply Array.toList_inj.mp
  simp [ba, ByteArray.data_extract, List.drop_take]
theorem rparse_fwd {s : ByteArray} {t y m d hh mi ss : Nat} (h : Is s t y m d hh mi ss) {k : Nat} (hk : 300300 ≤ k) : garretref21_Parse.f k s = some ((t : Int), 0) := by
  have q1 := h.e1; have q2 := h.e2; have q3 := h.e3; have q4 := h.y1; have q5 := h.y0
  have z1 := pad_len y 4 4 (by omega) (by decide)
  have z1' : 4 ≤ (pad y 4).length := by unfold pad; rw [List.length_append, List.length_replicate]; omega
  obtain ⟨a1, a2, ea⟩ := pad2 m h.hm
  obtain ⟨b1, b2, eb⟩ := pad2 d h.hd
  obtain ⟨c1, c2, ec⟩ := pad2 hh (by omega)
  obtain ⟨d1, d2, ed⟩ := pad2 mi (by omega)
  obtain ⟨f1, f2, ef⟩ := pad2 ss (by omega)
  obtain ⟨k, rfl⟩ : ∃ q, k = q + 1 := ⟨k - 1, by omega⟩
  have n1 := rnum_told y 4 4 (by omega) (by decide) (by decide) (q := k) (by omega)
  have n2 := rnum_told m 2 1 (by have := h.hm; omega) (by decide) (by decide) (q := k) (by omega)
  have n3 := rnum_told d 2 1 (by have := h.hd; omega) (by decide) (by decide) (q := k) (by omega)
  have n4 := rnum_told hh 2 1 (by omega) (by decide) (by decide) (q := k) (by omega)
  have n5 := rnum_told mi 2 1 (by omega) (by decide) (by decide) (q := k) (by omega)
  have n6 := rnum_told ss 2 1 (by omega) (by decide) (by decide) (q := k) (by omega)
  have hT := h.rtext (k := k) (by omega)
  have hU := runix_told (wd := 0) (k := k) (show (1970 : Int) ≤ (y : Int) by omega) (by omega) h.day (show (0 : Int) ≤ (hh : Int) by omega) (by omega) (show (0 : Int) ≤ (mi : Int) by omega) (by omega) (show (0 : Int) ≤ (ss : Int) by omega) (by omega) (by omega)
  have hmx := h.mx
  have hsum : (dayOf (t : Int) - 719162) * 86400 + (hh : Int) * 3600 + (mi : Int) * 60 + (ss : Int) = t := by unfold dayOf; omega
  rw [hsum, if_pos hmx] at hU
  have heq := h.eq
  rw [ea] at n2; rw [eb] at n3; rw [ec] at n4; rw [ed] at n5; rw [ef] at n6
  have hl : dayL y m d ++ 32 :: clockL hh mi ss = pad y 4 ++ [45, a1, a2, 45, b1, b2, 32, c1, c2, 58, d1, d2, 58, f1, f2] := by
    unfold dayL clockL
    rw [ea, eb, ec, ed, ef]
    simp
  rw [hl] at heq
  have hz : s.size = (pad y 4).length + 15 := by rw [heq, ba_size, List.length_append]; rfl
  have x0 : s.extract 0 (pad y 4).length = ba (pad y 4) := by
    rw [heq, ba_ext, List.take_left', List.drop_zero]; rfl
  have xr : s.extract (pad y 4).length s.size = ba [45, a1, a2, 45, b1, b2, 32, c1, c2, 58, d1, d2, 58, f1, f2] := by
    rw [heq, ba_ext, ba_size, List.take_length, List.drop_left']; rfl
  have hw : wrap64 ((s.size : Int) - 15) = (((pad y 4).length : Nat) : Int) := by rw [hz]; unfold wrap64; omega
  have zr : (ba [45, a1, a2, 45, b1, b2, 32, c1, c2, 58, d1, d2, 58, f1, f2]).size = 15 := rfl
  unfold garretref21_Parse.f
  rw [hw, if_neg (by omega), decide_eq_false (by omega), garretref21_Parse.j0, if_neg (by decide), if_pos (by omega), if_pos (by omega), Int.toNat_natCast, x0, xr, bnd n1]
  rw [if_pos (by decide), if_pos (by rw [zr]; decide), show (ba [45, a1, a2, 45, b1, b2, 32, c1, c2, 58, d1, d2, 58, f1, f2]).extract 1 3 = ba [a1, a2] from ba_ext _ _ _, bnd n2]
  rw [if_pos (by decide), if_pos (by rw [zr]; decide), show (ba [45, a1, a2, 45, b1, b2, 32, c1, c2, 58, d1, d2, 58, f1, f2]).extract 4 6 = ba [b1, b2] from ba_ext _ _ _, bnd n3]
  rw [if_pos (by decide), if_pos (by rw [zr]; decide), show (ba [45, a1, a2, 45, b1, b2, 32, c1, c2, 58, d1, d2, 58, f1, f2]).extract 7 9 = ba [c1, c2] from ba_ext _ _ _, bnd n4]
  rw [if_pos (by decide), if_pos (by rw [zr]; decide), show (ba [45, a1, a2, 45, b1, b2, 32, c1, c2, 58, d1, d2, 58, f1, f2]).extract 10 12 = ba [d1, d2] from ba_ext _ _ _, bnd n5]
  rw [if_pos (by decide), if_pos (by rw [zr]; decide), show (ba [45, a1, a2, 45, b1, b2, 32, c1, c2, 58, d1, d2, 58, f1, f2]).extract 13 15 = ba [f1, f2] from ba_ext _ _ _, bnd n6]
  rw [bnd hU]
  dsimp only
  rw [if_pos rfl, bnd hT]
  dsimp only
  rw [if_pos rfl]
theorem rparse_any (s : ByteArray) (hs : s.size ≤ 1048576) {k : Nat} (hk : 300300 ≤ k) : (∃ t y m d hh mi ss : Nat, Is s t y m d hh mi ss) ∨ garretref21_Parse.f k s = some (0, 210) := by
  obtain ⟨k, rfl⟩ : ∃ q, k = q + 1 := ⟨k - 1, by omega⟩
  have hj : ∀ x, garretref21_Parse.j0 (k + 1) s x true = some (0, 210) := fun x => by rw [garretref21_Parse.j0, if_pos rfl]
  have hw : wrap64 ((s.size : Int) - 15) = (s.size : Int) - 15 := by unfold wrap64; omega
  unfold garretref21_Parse.f
  rw [hw]
  by_cases h4 : (s.size : Int) - 15 < 4
  · rw [if_pos h4]; exact .inr (hj _)
  · rw [if_neg h4]
    by_cases h6 : (s.size : Int) - 15 > 6
    · rw [decide_eq_true h6]; exact .inr (hj _)
    · rw [decide_eq_false h6]
      obtain ⟨n, hn⟩ : ∃ n : Nat, s.size = n + 15 := ⟨s.size - 15, by omega⟩
      have e1 : (s.size : Int) - 15 = (n : Int) := by omega
      have zr : (s.extract n s.size).size = 15 := by rw [ByteArray.size_extract]; omega
      have le : ∀ i j, ((s.extract n s.size).extract i j).size ≤ 100 := fun i j => Nat.le_trans (ext_le _ _ _) (by omega)
      obtain ⟨v1, n1⟩ := rnum_some (s.extract 0 n) (Nat.le_trans (ext_le _ _ _) (by omega)) (k := k) (by omega)
      obtain ⟨v2, n2⟩ := rnum_some _ (le 1 3) (k := k) (by omega)
      obtain ⟨v3, n3⟩ := rnum_some _ (le 4 6) (k := k) (by omega)
      obtain ⟨v4, n4⟩ := rnum_some _ (le 7 9) (k := k) (by omega)
      obtain ⟨v5, n5⟩ := rnum_some _ (le 10 12) (k := k) (by omega)
      obtain ⟨v6, n6⟩ := rnum_some _ (le 13 15) (k := k) (by omega)
      rw [e1, garretref21_Parse.j0, if_neg (by decide), if_pos (by omega), if_pos (by omega), Int.toNat_natCast, bnd n1]
      rw [if_pos (by decide), if_pos (by rw [zr]; decide), bnd n2, if_pos (by decide), if_pos (by rw [zr]; decide), bnd n3, if_pos (by decide), if_pos (by rw [zr]; decide), bnd n4, if_pos (by decide), if_pos (by rw [zr]; decide), bnd n5, if_pos (by decide), if_pos (by rw [zr]; decide), bnd n6]
      rcases unix_any v1 v2 v3 v4 v5 v6 (k := k) (by omega) with ⟨t, t0, t1, _, hu⟩ | ⟨_, hu⟩
      · rw [bnd hu]
        dsimp only
        rw [if_pos rfl]
        obtain ⟨T, y, m, d, hh, mi, ss, rfl, hi⟩ := is_there t t0 t1
        rw [bnd (hi.rtext (by omega))]
        dsimp only
        by_cases he : (ba (dayL y m d ++ 32 :: clockL hh mi ss)).toList = s.toList
        · left
          have he2 : s = ba (dayL y m d ++ 32 :: clockL hh mi ss) := by
            rw [ByteArray.toList_eq, ByteArray.toList_eq] at he
            exact (ByteArray.ext (Array.toList_inj.mp he)).symm
          exact ⟨T, y, m, d, hh, mi, ss, hi.mx, hi.day, hi.y0, hi.y1, hi.hm, hi.hd, hi.e1, hi.e2, hi.e3, he2⟩
        · rw [if_neg he]; exact .inr rfl
      · rw [bnd hu]
        dsimp only
        rw [if_neg (by decide)]
        exact .inr rfl
theorem parse_same (s : ByteArray) (hs : s.size ≤ 1048576) {k : Nat} (hk : 300300 ≤ k) : ∃ r, civil_Parse.f k s = some r ∧ garretref21_Parse.f k s = some r := by
  rcases parse_any s hs hk with ⟨t, y, m, d, hh, mi, ss, h⟩ | h1
  · exact ⟨_, h.parse (by omega), rparse_fwd h hk⟩
  · rcases rparse_any s hs hk with ⟨t, y, m, d, hh, mi, ss, h⟩ | h2
    · exact ⟨_, h.parse (by omega), rparse_fwd h hk⟩
    · exact ⟨_, h1, h2⟩
theorem text_same (t : Int) {k : Nat} (hk : 300300 ≤ k) : ∃ r, civil_Text.f k t = some r ∧ garretref21_Text.f k t = some r := by
  by_cases h : 0 ≤ t ∧ t ≤ 1099511627776
  · obtain ⟨T, y, m, d, hh, mi, ss, rfl, hi⟩ := is_there t h.1 h.2
    exact ⟨_, hi.text (by omega), hi.rtext (by omega)⟩
  · exact ⟨_, text_no h k, rtext_no h k⟩
theorem CivilTexts : garretlaw21_CivilTexts.Pure := by
  intro t s _ hs
  obtain ⟨⟨a, e⟩, h1, h2⟩ := text_same t (k := 400000) (by omega)
  obtain ⟨⟨c, g⟩, h3, h4⟩ := parse_same s hs (k := 400000) (by omega)
  refine ⟨400000, ?_⟩
  unfold garretlaw21_CivilTexts.f
  rw [bnd h1, bnd h2, bnd h3, bnd h4]
  dsimp only
  rw [if_pos rfl, if_pos rfl, if_pos rfl, if_pos rfl, bnd (works_told (by omega))]
end Go.Proofs.YtcmpjjbhhehanaaGreatDoor.Pure
