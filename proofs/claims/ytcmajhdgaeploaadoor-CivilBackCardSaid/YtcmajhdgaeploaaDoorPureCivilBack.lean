/- CivilBack, the plain part: a time's date tells the time; so does its text. -/
import Derived.Test.YtcmajhdgaeploaaDoorQCivBx6
import Derived.Test.YtcmajhdgaeploaaDoorYCivBTold
import Derived.Test.YtcmajhdgaeploaaDoorYCivBUnix
import Derived.Test.YtcmajhdgaeploaaDoorYCivText
namespace Go.Proofs.YtcmajhdgaeploaaDoor.Pure
open Go.RowKit Go.Proofs.YtcmajhdgaeploaaDoor.QCivB Go.Proofs.YtcmajhdgaeploaaDoorW.PrintWords Go.Proofs.YtcmajhdgaeploaaDoorW.PrintLast Go.Proofs.YtcmajhdgaeploaaDoor.Civ
set_option linter.unusedVariables false

abbrev ba (l : List UInt8) : ByteArray := ⟨l.toArray⟩
theorem ba_list (l : List UInt8) : (ba l).data.toList = l := rfl
theorem ba_size (l : List UInt8) : (ba l).size = l.length := rfl
theorem dig_told (n least : Nat) (hl : least ≤ 100) (hn : n < 10 ^ 6) : civil_digits.f (n : Int) (least : Int) = some (ba (pad n least)) := by
  have h := dec_len 5 n hn
  have := digits_told (n := (n : Int)) (least := (least : Int)) (l := Lib.decDigits n) (itoa_nat n) (by omega) (by omega) (by omega) (by omega) (by omega)
  rw [Int.toNat_natCast] at this
  exact this
/-- The text of a date. -/
def dayL (y m d : Nat) : List UInt8 := pad y 4 ++ 45 :: (pad m 2 ++ 45 :: pad d 2)
def clockL (h mi s : Nat) : List UInt8 := pad h 2 ++ 58 :: (pad mi 2 ++ 58 :: pad s 2)
theorem text_told {t y m d : Nat} {hh mi ss : Nat} (h1 : (t : Int) ≤ 1099511627776) (hd : IsDay (dayOf t) y m d) (hy : y < 100000) (hm : m < 100) (hdd : d < 100) (e1 : (t : Int) % 86400 / 3600 = hh) (e2 : (t : Int) % 86400 / 60 % 60 = mi) (e3 : (t : Int) % 60 = ss)
    (l1 : hh < 100) (l2 : mi < 100) (l3 : ss < 100) {k : Nat} (hk : 300000 ≤ k) :
    civil_Text.f k (t : Int) = some (ba (dayL y m d ++ 32 :: clockL hh mi ss), 0) := by
  have z1 := pad_len y 4 4 (by simpa using hy) (by decide)
  have z2 := pad_len m 2 1 (by simpa using hm) (by decide)
  have z3 := pad_len d 2 1 (by simpa using hdd) (by decide)
  have z4 := pad_len hh 2 1 (by simpa using l1) (by decide)
  have z5 := pad_len mi 2 1 (by simpa using l2) (by decide)
  have z6 := pad_len ss 2 1 (by simpa using l3) (by decide)
  have d1 : civil_digits.f (y : Int) 4 = some (ba (pad y 4)) := dig_told y 4 (by decide) (by omega)
  have d2 : civil_digits.f (m : Int) 2 = some (ba (pad m 2)) := dig_told m 2 (by decide) (by omega)
  have d3 : civil_digits.f (d : Int) 2 = some (ba (pad d 2)) := dig_told d 2 (by decide) (by omega)
  have d4 : civil_digits.f (hh : Int) 2 = some (ba (pad hh 2)) := dig_told hh 2 (by decide) (by omega)
  have d5 : civil_digits.f (mi : Int) 2 = some (ba (pad mi 2)) := dig_told mi 2 (by decide) (by omega)
  have d6 : civil_digits.f (ss : Int) 2 = some (ba (pad ss 2)) := dig_told ss 2 (by decide) (by omega)
  have s1 := ba_size (pad y 4)
  have s2 := ba_size (pad m 2)
  have s3 := ba_size (pad d 2)
  have s4 := ba_size (pad hh 2)
  have s5 := ba_size (pad mi 2)
  have s6 := ba_size (pad ss 2)
  have q1 : (⟨#[45]⟩ : ByteArray).size = 1 := rfl
  have q2 : (⟨#[32]⟩ : ByteArray).size = 1 := rfl
  have q3 : (⟨#[58]⟩ : ByteArray).size = 1 := rfl
  have hfin : ((((((((((ba (pad y 4) ++ (⟨#[45]⟩ : ByteArray)) ++ ba (pad m 2)) ++ (⟨#[45]⟩ : ByteArray)) ++ ba (pad d 2)) ++ (⟨#[32]⟩ : ByteArray)) ++ ba (pad hh 2)) ++ (⟨#[58]⟩ : ByteArray)) ++ ba (pad mi 2)) ++ (⟨#[58]⟩ : ByteArray)) ++ ba (pad ss 2)) = ba (dayL y m d ++ 32 :: clockL hh mi ss) := by
    apply ByteArray.ext
    apply Array.toList_inj.mp
    simp [ba, dayL, clockL]
  unfold civil_Text.f
  rw [bnd (of_told (by omega) h1 hd hk), e1, e2, e3]
  dsimp only
  rw [if_pos rfl]
  rw [bnd d1]
  generalize ba (pad y 4) = A at *
  rw [if_pos (by omega)]
  rw [bnd d2]
  generalize ba (pad m 2) = B at *
  rw [if_pos (by rw [ByteArray.size_append]; omega), if_pos (by rw [ByteArray.size_append, ByteArray.size_append]; omega)]
  rw [bnd d3]
  generalize ba (pad d 2) = C at *
  rw [if_pos (by rw [ByteArray.size_append, ByteArray.size_append, ByteArray.size_append]; omega), if_pos (by rw [ByteArray.size_append, ByteArray.size_append, ByteArray.size_append, ByteArray.size_append]; omega)]
  rw [bnd d4]
  generalize ba (pad hh 2) = D at *
  rw [if_pos (by rw [ByteArray.size_append, ByteArray.size_append, ByteArray.size_append, ByteArray.size_append, ByteArray.size_append]; omega), if_pos (by rw [ByteArray.size_append, ByteArray.size_append, ByteArray.size_append, ByteArray.size_append, ByteArray.size_append, ByteArray.size_append]; omega)]
  rw [bnd d5]
  generalize ba (pad mi 2) = E at *
  rw [if_pos (by rw [ByteArray.size_append, ByteArray.size_append, ByteArray.size_append, ByteArray.size_append, ByteArray.size_append, ByteArray.size_append, ByteArray.size_append]; omega), if_pos (by rw [ByteArray.size_append, ByteArray.size_append, ByteArray.size_append, ByteArray.size_append, ByteArray.size_append, ByteArray.size_append, ByteArray.size_append, ByteArray.size_append]; omega)]
  rw [bnd d6]
  generalize ba (pad ss 2) = F at *
  rw [if_pos (by rw [ByteArray.size_append, ByteArray.size_append, ByteArray.size_append, ByteArray.size_append, ByteArray.size_append, ByteArray.size_append, ByteArray.size_append, ByteArray.size_append, ByteArray.size_append]; omega)]
  rw [hfin]

theorem cut_told (a b : List UInt8) (ha : ∀ x ∈ a, x ≠ 32) (hl : a.length + b.length < 1000) : strings_Cut.f (ba (a ++ 32 :: b)) (⟨#[32]⟩ : ByteArray) = some (ba a, ba b, true) := by
  unfold strings_Cut.f
  rw [if_pos (by show (a ++ 32 :: b).length < _; rw [List.length_append, List.length_cons]; omega)]
  show some ((⟨(Lib.cut (a ++ 32 :: b) [32]).1.toArray⟩ : ByteArray), (⟨(Lib.cut (a ++ 32 :: b) [32]).2.1.toArray⟩ : ByteArray), (Lib.cut (a ++ 32 :: b) [32]).2.2) = _
  rw [cut_at 32 a b ha]
theorem split_told (c : UInt8) (A B C : List UInt8) (hA : ∀ x ∈ A, x ≠ c) (hB : ∀ x ∈ B, x ≠ c) (hC : ∀ x ∈ C, x ≠ c) (hl : A.length + B.length + C.length < 1000) :
    strings_Split.f (ba (A ++ c :: (B ++ c :: C))) (⟨#[c]⟩ : ByteArray) = some [ba A, ba B, ba C] := by
  obtain ⟨h1, h2⟩ := split3 c A B C hA hB hC
  unfold strings_Split.f
  rw [h1, h2, if_pos ⟨by show (A ++ c :: (B ++ c :: C)).length < _; simp only [List.length_append, List.length_cons]; omega, Nat.le_refl _, by decide, rfl⟩]
theorem number_told (n least k : Nat) (hn : n < 10 ^ (k + 1)) (hl : least ≤ k + 1) (hk : k ≤ 10) : civil_number.f (ba (pad n least)) = some (n : Int) := by
  have z := pad_len n least k hn hl
  unfold civil_number.f
  rw [if_pos ⟨by rw [ba_size]; omega, pad_trim n least⟩]
  exact pad_atoi n least z.2
theorem dayL_ne (y m d : Nat) : ∀ x ∈ dayL y m d, x ≠ 32 := by
  intro x hx
  unfold dayL at hx
  rw [List.mem_append, List.mem_cons, List.mem_append, List.mem_cons] at hx
  rcases hx with hx | rfl | hx | rfl | hx
  · exact pad_ne _ _ 32 (by decide) x hx
  · decide
  · exact pad_ne _ _ 32 (by decide) x hx
  · decide
  · exact pad_ne _ _ 32 (by decide) x hx
/-- The time of a date's text. -/
theorem parse_told {t y m d : Nat} {hh mi ss : Nat} (y0 : 1970 ≤ y) (y1 : y ≤ 40000) (h1 : (t : Int) ≤ 1099511627776) (hd : IsDay (dayOf t) y m d) (hm : m < 100) (hdd : d < 100) (e1 : (t : Int) % 86400 / 3600 = hh) (e2 : (t : Int) % 86400 / 60 % 60 = mi) (e3 : (t : Int) % 60 = ss)
    {k : Nat} (hk : 300200 ≤ k) :
    civil_Parse.f k (ba (dayL y m d ++ 32 :: clockL hh mi ss)) = some ((t : Int), 0) := by
  have l1 : hh < 24 := by omega
  have l2 : mi < 60 := by omega
  have l3 : ss < 60 := by omega
  have z1 := pad_len y 4 4 (by omega) (by decide)
  have z2 := pad_len m 2 1 (by omega) (by decide)
  have z3 := pad_len d 2 1 (by omega) (by decide)
  have z4 := pad_len hh 2 1 (by omega) (by decide)
  have z5 := pad_len mi 2 1 (by omega) (by decide)
  have z6 := pad_len ss 2 1 (by omega) (by decide)
  have hdl : (dayL y m d).length < 20 := by unfold dayL; simp only [List.length_append, List.length_cons]; omega
  have hcl : (clockL hh mi ss).length < 20 := by unfold clockL; simp only [List.length_append, List.length_cons]; omega
  have hT := text_told (k := k - 1) h1 hd (by omega) hm hdd e1 e2 e3 (by omega) (by omega) (by omega) (by omega)
  have hU := unix_told (wd := 0) (k := k - 1) (show (1970 : Int) ≤ (y : Int) by omega) (by omega) hd (show (0 : Int) ≤ (hh : Int) by omega) (by omega) (show (0 : Int) ≤ (mi : Int) by omega) (by omega) (show (0 : Int) ≤ (ss : Int) by omega) (by omega) (by omega)
  have hsum : (dayOf (t : Int) - 719162) * 86400 + (hh : Int) * 3600 + (mi : Int) * 60 + (ss : Int) = t := by unfold dayOf; omega
  rw [hsum, if_pos h1] at hU
  unfold civil_Parse.f
  rw [bnd (cut_told _ _ (dayL_ne y m d) (by omega))]
  dsimp only
  rw [bnd (show strings_Split.f (ba (dayL y m d)) (⟨#[45]⟩ : ByteArray) = some [ba (pad y 4), ba (pad m 2), ba (pad d 2)] from split_told 45 (pad y 4) (pad m 2) (pad d 2) (pad_ne _ _ _ (by decide)) (pad_ne _ _ _ (by decide)) (pad_ne _ _ _ (by decide)) (by omega))]
  rw [bnd (show strings_Split.f (ba (clockL hh mi ss)) (⟨#[58]⟩ : ByteArray) = some [ba (pad hh 2), ba (pad mi 2), ba (pad ss 2)] from split_told 58 (pad hh 2) (pad mi 2) (pad ss 2) (pad_ne _ _ _ (by decide)) (pad_ne _ _ _ (by decide)) (pad_ne _ _ _ (by decide)) (by omega))]
  obtain ⟨k, rfl⟩ : ∃ q, k = q + 1 := ⟨k - 1, by omega⟩
  rw [Nat.add_sub_cancel] at hT hU
  have n1 := number_told y 4 4 (by omega) (by decide) (by decide)
  have n2 := number_told m 2 1 (by omega) (by decide) (by decide)
  have n3 := number_told d 2 1 (by omega) (by decide) (by decide)
  have n4 := number_told hh 2 1 (by omega) (by decide) (by decide)
  have n5 := number_told mi 2 1 (by omega) (by decide) (by decide)
  have n6 := number_told ss 2 1 (by omega) (by decide) (by decide)
  generalize ba (pad y 4) = A at *
  generalize ba (pad m 2) = B at *
  generalize ba (pad d 2) = C at *
  generalize ba (pad hh 2) = D at *
  generalize ba (pad mi 2) = E at *
  generalize ba (pad ss 2) = F at *
  generalize ba (dayL y m d ++ 32 :: clockL hh mi ss) = S at *
  show civil_Parse.j0 (k + 1) S [A, B, C] [D, E, F] false = _
  show (civil_number.f A).bind _ = _
  rw [bnd n1]
  show (civil_number.f B).bind _ = _
  rw [bnd n2]
  show (civil_number.f C).bind _ = _
  rw [bnd n3]
  show (civil_number.f D).bind _ = _
  rw [bnd n4]
  show (civil_number.f E).bind _ = _
  rw [bnd n5]
  show (civil_number.f F).bind _ = _
  rw [bnd n6, bnd hU, if_pos rfl, bnd hT, if_pos rfl]

theorem CivilBack : garretlaw21_CivilBack.Pure := by
  intro a0 hwf
  obtain ⟨t, ht, t0, t1⟩ := among_told a0 1099511627777 (wf_i64 hwf).1 (wf_i64 hwf).2 (by decide) (by decide)
  obtain ⟨k, hk⟩ : ∃ n, n = 400000 := ⟨_, rfl⟩
  obtain ⟨y, m, d, h⟩ := date_there t0
  have hyr := h.year
  have h1y := h.1
  have h1m := h.2.1
  have h2m := h.2.2.1
  have h1d := h.2.2.2.1
  have h2d := h.2.2.2.2.1
  have hmb := mdays_bounds y m
  have hn0 : 719162 ≤ dayOf t := by unfold dayOf; omega
  have hn1 : dayOf t ≤ 13445000 := by unfold dayOf; omega
  have y0 : 1970 ≤ y := by
    by_cases c : 1970 ≤ y
    · exact c
    · have := bef_mono (show y + 1 ≤ 1970 by omega)
      rw [bef_1970] at this
      omega
  have y1 : y ≤ 40000 := by
    by_cases c : y ≤ 40000
    · exact c
    · have := bef_mono (show 40001 ≤ y by omega)
      have h4 : bef 40001 = 14609700 := by decide
      omega
  obtain ⟨T, rfl⟩ : ∃ T : Nat, t = T := ⟨t.toNat, by omega⟩
  obtain ⟨Y, rfl⟩ : ∃ Y : Nat, y = Y := ⟨y.toNat, by omega⟩
  obtain ⟨M, rfl⟩ : ∃ Y : Nat, m = Y := ⟨m.toNat, by omega⟩
  obtain ⟨D, rfl⟩ : ∃ Y : Nat, d = Y := ⟨d.toNat, by omega⟩
  obtain ⟨H, e1⟩ : ∃ Y : Nat, (T : Int) % 86400 / 3600 = Y := ⟨((T : Int) % 86400 / 3600).toNat, by omega⟩
  obtain ⟨I, e2⟩ : ∃ Y : Nat, (T : Int) % 86400 / 60 % 60 = Y := ⟨((T : Int) % 86400 / 60 % 60).toNat, by omega⟩
  obtain ⟨S, e3⟩ : ∃ Y : Nat, (T : Int) % 60 = Y := ⟨((T : Int) % 60).toNat, by omega⟩
  have hO := of_told (k := k) t0 (by omega) h (by omega)
  have hT := text_told (k := k) (by omega) h (by omega) (by omega) (by omega) e1 e2 e3 (by omega) (by omega) (by omega) (by omega)
  have hP := parse_told (k := k) (by omega) (by omega) (by omega) h (by omega) (by omega) e1 e2 e3 (by omega)
  have hU := unix_told (wd := (T : Int) / 86400 % 7) (k := k) y0 y1 h (show (0 : Int) ≤ (H : Int) by omega) (by omega) (show (0 : Int) ≤ (I : Int) by omega) (by omega) (show (0 : Int) ≤ (S : Int) by omega) (by omega) (by omega)
  have hU' := fun wd => unix_told (wd := wd) (k := k) y0 y1 h (show (0 : Int) ≤ (H : Int) by omega) (by omega) (show (0 : Int) ≤ (I : Int) by omega) (by omega) (show (0 : Int) ≤ (S : Int) by omega) (by omega) (by omega)
  have hsum : (dayOf (T : Int) - 719162) * 86400 + (H : Int) * 3600 + (I : Int) * 60 + (S : Int) = T := by unfold dayOf; omega
  rw [e1, e2, e3] at hO
  refine ⟨k, ?_⟩
  unfold garretlaw21_CivilBack.f
  rw [bnd (works_told (by omega)), if_pos rfl, bnd ht, bnd hO]
  dsimp only
  rw [bnd (hU' _), hsum, if_pos (by omega), bnd hT, bnd hP]
  dsimp only
  rw [if_pos rfl, if_pos rfl, if_pos rfl, if_pos rfl, if_pos rfl]
  simp
end Go.Proofs.YtcmajhdgaeploaaDoor.Pure
