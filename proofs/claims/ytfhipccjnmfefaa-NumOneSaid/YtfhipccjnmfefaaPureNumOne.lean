/- NumOne, the plain part: for every text s (of at most 140737488351232 bytes): whatever short number a reader reads from s is written as just the bytes that were read; where it reads none it tells 0 and stays where it is. -/
import Derived.Test.YtfhipccjnmfefaaZNumNum
namespace Go.Proofs.Ytfhipccjnmfefaa.Pure
open Go.RowKit Go.Proofs.Ytfhipccjnmfefaa.QNum Go.Proofs.YtfhipccjnmfefaaW.PrintWords Go.Proofs.YtfhipccjnmfefaaW.PrintLast Go.Proofs.YtfhipccjnmfefaaW.PrintMore
set_option linter.unusedVariables false

theorem NumOne : garretlaw01_NumOne.Pure := by
  intro s hs
  refine ⟨12, ?_⟩
  have hw : garretlaw01_works.f 12 = some true := by decide +kernel
  unfold garretlaw01_NumOne.f
  simp only [num_Read.f, Option.bind_some]
  rw [hw]
  simp only [Option.bind_some, if_true]
  obtain ⟨⟨n, j, c⟩, hd⟩ : ∃ r, decGo (if s.size < 9 then 10 else 3) ((bytesOf s).take 9) 0 0 = r := ⟨_, rfl⟩
  by_cases hc : c = 0
  · subst hc
    obtain ⟨m, len, hn, hj, henc, hl, _⟩ := decGo_ok (by split <;> decide) _ _ _ _ _ (fun c hc => bytes8_bytesOf s c (List.mem_of_mem_take hc)) hd
    simp only [Int.pow_zero, Int.mul_one, Int.zero_add] at hn
    obtain rfl : n = m := by simpa using hn
    obtain rfl : j = len := by simpa using hj
    have hl9 : len ≤ 9 ∧ len ≤ s.size := by
      rw [List.length_take, bytesOf_size] at hl
      omega
    have hlen : (encS m).length = len := by rw [henc, List.length_take]; omega
    have hm : m < 9223372036854775808 := by
      have h1 := encS_lt m
      rw [hlen] at h1
      have h2 : 128 ^ len ≤ 128 ^ 9 := Nat.pow_le_pow_right (by omega) hl9.1
      omega
    rw [rshort_ok (by omega) s _ m len hd (by omega) hl9.2]
    simp only [Option.bind_some, num_Reader_Err.f, if_true]
    rw [short_told (by omega) m (by omega) (by omega)]
    simp only [Option.bind_some, if_true, num_Reader_Left.f]
    have hsz : ((s.extract len s.size).size : Int) = s.size - len := by
      rw [size_eq, bytesOf_extract, List.length_take, List.length_drop, bytesOf_size]; omega
    have hw64 : wrap64 ((s.size : Int) - ((s.extract len s.size).size : Int)) = len := by rw [hsz]; unfold wrap64; omega
    rw [hw64, if_pos (by omega), if_pos (by omega)]
    simp only [Option.some.injEq, beq_iff_eq, toList_eq, Int.toNat_natCast]
    apply bytesOf_inj
    rw [bytesOf_strOfNums (encS_bytes _), henc, bytesOf_extract, List.take_take]
    simp
    omega
  · rw [rshort_bad (by omega) s _ n j c hd hc]
    simp only [Option.bind_some, num_Reader_Err.f, num_Reader_Left.f]
    rw [if_neg hc]
    simp
end Go.Proofs.Ytfhipccjnmfefaa.Pure
