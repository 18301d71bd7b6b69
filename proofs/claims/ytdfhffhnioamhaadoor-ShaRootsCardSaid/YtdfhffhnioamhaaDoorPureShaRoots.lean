/- ShaRoots, the plain part: the example's sums, and each place's constant, by the kernel. -/
import Derived.Test.YtdfhffhnioamhaaDoorQShax2
namespace Go.Proofs.YtdfhffhnioamhaaDoor.Pure
open Go.RowKit Go.Proofs.YtdfhffhnioamhaaDoor.QSha Go.Proofs.YtdfhffhnioamhaaDoorW.PrintWords Go.Proofs.YtdfhffhnioamhaaDoorW.PrintLast
set_option linter.unusedVariables false
set_option maxRecDepth 100000

theorem bnd {α β : Type} {a : Option α} {x : α} {f : α → Option β} (h : a = some x) : a.bind f = f x := by rw [h]; rfl
theorem works_told : garretlaw02_works.f = some true := by decide +kernel
theorem among64 (a : Int) (h0 : -9223372036854775808 ≤ a) (h1 : a ≤ 9223372036854775807) : ∃ r : Fin 64, garretbook_Among.f a 64 = some ((r.val : Nat) : Int) := by
  unfold garretbook_Among.f
  rw [if_neg (by omega)]
  have hA : -64 < Int.tmod a 64 ∧ Int.tmod a 64 < 64 := by
    have := Int.tmod_lt_of_pos a (show (0 : Int) < 64 by decide)
    have h2 := Int.tmod_lt_of_pos (-a) (show (0 : Int) < 64 by decide)
    rw [Int.neg_tmod] at h2
    omega
  have hw : wrap64 (Int.tmod a 64 + 64) = Int.tmod a 64 + 64 := by
    have := hA.1; have := hA.2
    generalize Int.tmod a 64 = q at *
    unfold wrap64; omega
  rw [hw]
  have g0 : 0 ≤ Int.tmod (Int.tmod a 64 + 64) 64 := Int.tmod_nonneg _ (by omega)
  have g1 : Int.tmod (Int.tmod a 64 + 64) 64 < 64 := Int.tmod_lt_of_pos _ (by decide)
  generalize Int.tmod (Int.tmod a 64 + 64) 64 = q at *
  exact ⟨⟨q.toNat, by omega⟩, by show some q = some ((q.toNat : Nat) : Int); rw [Int.toNat_of_nonneg g0]⟩
/-- What is said of one place. -/
def place (k : Nat) (t : Int) : Option Bool := (sha_Constant.f k t).bind fun b => if b.2 = 0 then (garretlaw02_prime.f k t).bind fun p => garretlaw02_ShaRoots.l0 k b.1 p 0 else none
theorem place_0 : ∀ i : Fin 16, place 10000 (i.val : Int) = some true := by decide +kernel
theorem place_1 : ∀ i : Fin 16, place 10000 ((i.val + 16 : Nat) : Int) = some true := by decide +kernel
theorem place_2 : ∀ i : Fin 16, place 10000 ((i.val + 32 : Nat) : Int) = some true := by decide +kernel
theorem place_3 : ∀ i : Fin 16, place 10000 ((i.val + 48 : Nat) : Int) = some true := by decide +kernel
theorem place_told (i : Fin 64) : place 10000 ((i.val : Nat) : Int) = some true := by
  have h := i.isLt
  by_cases a : i.val < 16
  · exact place_0 ⟨i.val, a⟩
  · by_cases b : i.val < 32
    · have := place_1 ⟨i.val - 16, by omega⟩
      rw [show ((⟨i.val - 16, by omega⟩ : Fin 16).val + 16) = i.val by show i.val - 16 + 16 = _; omega] at this
      exact this
    · by_cases c : i.val < 48
      · have := place_2 ⟨i.val - 32, by omega⟩
        rw [show ((⟨i.val - 32, by omega⟩ : Fin 16).val + 32) = i.val by show i.val - 32 + 32 = _; omega] at this
        exact this
      · have := place_3 ⟨i.val - 48, by omega⟩
        rw [show ((⟨i.val - 48, by omega⟩ : Fin 16).val + 48) = i.val by show i.val - 48 + 48 = _; omega] at this
        exact this
theorem ShaRoots : garretlaw02_ShaRoots.Pure := by
  intro a0 hwf
  have hb : -9223372036854775808 ≤ a0 ∧ a0 ≤ 9223372036854775807 := by
    simp [Lit.wf, IntKind.min, IntKind.max, IntKind.signed, IntKind.bits] at hwf
    omega
  obtain ⟨r, hr⟩ := among64 a0 hb.1 hb.2
  refine ⟨10000, ?_⟩
  unfold garretlaw02_ShaRoots.f
  rw [bnd works_told, if_pos rfl, bnd hr]
  exact place_told r
end Go.Proofs.YtdfhffhnioamhaaDoor.Pure
