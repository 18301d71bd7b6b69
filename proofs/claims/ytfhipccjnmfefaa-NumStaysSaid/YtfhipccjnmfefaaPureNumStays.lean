/- NumStays, the plain part: for every text s (of at most 140737488351232 bytes) and all acts (any list that can be read): behind a first error a reader tells nothing more, stays where it is, and keeps its first error. -/
import Derived.Test.YtfhipccjnmfefaaZNumNum
namespace Go.Proofs.Ytfhipccjnmfefaa.Pure
open Go.RowKit Go.Proofs.Ytfhipccjnmfefaa.QNum Go.Proofs.YtfhipccjnmfefaaW.PrintWords Go.Proofs.YtfhipccjnmfefaaW.PrintLast Go.Proofs.YtfhipccjnmfefaaW.PrintMore
set_option linter.unusedVariables false

theorem rbytes_err (s : ByteArray) (e a : Int) (he : e ≠ 0) : num_Reader_Bytes.f s e a = some ((⟨#[]⟩ : ByteArray), s, e) := by
  unfold num_Reader_Bytes.f
  by_cases h : a < 0
  · rw [if_pos h, fail_told, if_neg he]
    simp only [Option.bind_some]
    rw [if_neg he]
  · rw [if_neg h]
    simp only [num_Reader_Left.f, Option.bind_some]
    by_cases h2 : a > (s.size : Int)
    · rw [if_pos h2, fail_told, if_neg he]
      simp only [Option.bind_some]
      rw [if_neg he]
    · rw [if_neg h2, if_neg he]
theorem rfixed_err (s : ByteArray) (e a : Int) (he : e ≠ 0) : num_Reader_Fixed.f s e a = some (0, s, e) := by
  unfold num_Reader_Fixed.f
  have h1 : (if a < 1 ∨ a > 7 then num_Reader_Fail.f s e 1 else some (s, e)) = some (s, e) := by
    rw [fail_told, if_neg he]; split <;> rfl
  rw [h1]
  simp only [Option.bind_some]
  rw [rbytes_err s e a he]
  rfl
theorem rtext_err {k : Nat} (hk : 11 ≤ k) (s : ByteArray) (e a : Int) (he : e ≠ 0) : num_Reader_Text.f k s e a = some ((⟨#[]⟩ : ByteArray), s, e) := by
  unfold num_Reader_Text.f
  rw [rshort_err hk s e a he]
  simp only [Option.bind_some]
  rw [rbytes_err s e 0 he]
  simp only [Option.bind_some]
  rw [if_neg he]
theorem rend_err (s : ByteArray) (e : Int) (he : e ≠ 0) : num_Reader_End.f s e = some (e, s, e) := by
  unfold num_Reader_End.f
  simp only [num_Reader_Left.f, Option.bind_some, fail_told]
  rw [if_neg he]
  split <;> rfl

theorem stays_loop (s : ByteArray) (l : List S41) (hl : l.length < 9223372036854775000) : ∀ (d k i : Nat), l.length - i = d → 2 * d + 13 ≤ k → i ≤ l.length → garretlaw01_NumStays.l0 k s l i s 10 = some true := by
  intro d
  induction d with
  | zero =>
    intro k i hd hk hi
    obtain ⟨k, rfl⟩ : ∃ m, k = m + 2 := ⟨k - 2, by omega⟩
    simp only [garretlaw01_NumStays.l0]
    rw [if_neg (by omega)]
    simp only [garretlaw01_NumStays.j1, num_Reader_Err.f, Option.bind_some]
    simp
  | succ d ih =>
    intro k i hd hk hi
    obtain ⟨k, rfl⟩ : ∃ m, k = m + 2 := ⟨k - 2, by omega⟩
    have hlt : (i : Int) < l.length := by omega
    have hnx := ih k (i + 1) (by omega) (by omega) (by omega)
    have hw : wrap64 ((i : Int) + 1) = ((i + 1 : Nat) : Int) := by unfold wrap64; omega
    simp only [garretlaw01_NumStays.l0]
    rw [if_pos hlt]
    by_cases h50 : (i : Int) < 50
    · simp only [garretlaw01_NumStays.j1, decide_eq_true h50, if_true]
      have hb1 := rbytes_err s 10 (rd_T41 l i).f1 (by decide)
      have he : (⟨#[]⟩ : ByteArray).toList = [] := by rw [ByteArray.toList_eq]
      rw [if_pos (by omega), if_pos hlt, bnd (rfixed_err s 10 _ (by decide))]
      dsimp only
      rw [if_pos rfl, bnd (rshort_err (by omega) s 10 _ (by decide))]
      dsimp only
      rw [if_pos rfl, bnd (rtext_err (by omega) s 10 _ (by decide))]
      dsimp only
      rw [if_pos he, bnd hb1]
      dsimp only
      rw [if_pos he, bnd (show num_Reader_Err.f s 10 = some (10, s, 10) from rfl)]
      dsimp only
      rw [if_pos rfl, bnd (rend_err s 10 (by decide))]
      dsimp only
      rw [if_pos rfl, bnd (show num_Reader_Left.f s 10 = some ((s.size : Int), s, 10) from rfl)]
      dsimp only
      rw [if_pos rfl, bnd (show num_Reader_Fail.f s 10 _ = some (s, 10) by rw [fail_told, if_neg (by decide)]), hw]
      exact hnx
    · simp only [garretlaw01_NumStays.j1, decide_eq_false h50]
      simp only [num_Reader_Err.f, Option.bind_some]
      simp

theorem NumStays : garretlaw01_NumStays.Pure := by
  intro s l hs hl
  obtain ⟨k, hk⟩ : ∃ k, k = 2 * l.length + 13 := ⟨_, rfl⟩
  refine ⟨k, ?_⟩
  have hlm : l.length < 9223372036854775000 := by omega
  have hw : ∀ k, 10 ≤ k → garretlaw01_works.f k = some true := fun k hk => by
    obtain ⟨d, rfl⟩ : ∃ d, k = 10 + d := ⟨k - 10, by omega⟩
    induction d with
    | zero => exact works_told
    | succ d ih => exact garretlaw01_works.mono _ _ (ih (by omega))
  have hb : num_Reader_Bytes.f s 0 (wrap64 ((s.size : Int) + 1)) = some ((⟨#[]⟩ : ByteArray), s, 10) := by
    have e1 : wrap64 ((s.size : Int) + 1) = s.size + 1 := by unfold wrap64; omega
    unfold num_Reader_Bytes.f
    rw [e1, if_neg (by omega), bnd (show num_Reader_Left.f s 0 = some ((s.size : Int), s, 0) from rfl)]
    dsimp only
    rw [if_pos (by omega), bnd (show num_Reader_Fail.f s 0 10 = some (s, 10) from rfl)]
    dsimp only
    rw [if_neg (by decide)]
  have hloop := stays_loop s l hlm l.length k 0 (Nat.sub_zero _) (by omega) (Nat.zero_le _)
  unfold garretlaw01_NumStays.f
  rw [bnd (show num_Read.f s = some (s, 0) from rfl)]
  dsimp only
  rw [bnd (hw k (by omega)), if_pos rfl, bnd hb]
  exact hloop
end Go.Proofs.Ytfhipccjnmfefaa.Pure
