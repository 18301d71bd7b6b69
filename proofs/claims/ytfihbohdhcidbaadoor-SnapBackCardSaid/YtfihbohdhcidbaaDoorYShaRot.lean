/- The code's words of a block and how a block is taken in: walked; arrays as lists. -/
import Derived.Test.YtfihbohdhcidbaaDoorProg
import Derived.Test.YtfihbohdhcidbaaDoorWWords
import Derived.Test.YtfihbohdhcidbaaDoorWLast
import Derived.Test.YtfihbohdhcidbaaDoorWMore
import Derived.Test.YtfihbohdhcidbaaDoorYShaFns
import Derived.WalkKit
import Derived.Lib.LaidTab
namespace Go.Proofs.YtfihbohdhcidbaaDoor.Sha
open Go Go.RowKit Go.Proofs.YtfihbohdhcidbaaDoorW.PrintWords Go.Proofs.YtfihbohdhcidbaaDoorW.PrintLast Go.Proofs.YtfihbohdhcidbaaDoorW.PrintMore
set_option linter.unusedVariables false

/-- A turn to the right, as the code says it. -/
def Turns (n : Nat) : Prop := ∀ (x : W32) (w : World), Calls Tryd.prog 79 #[.int .u32 (x.toNat : Int), .int .i64 (-(n : Int))] w fun e w' => e = .returned (.int .u32 ((rr x n).toNat : Int)) ∧ w' = w
theorem turns_of (n : Nat) (h0 : 0 < n) (h1 : n < 32) (e1 : Go.bits .and .u64 (IntKind.u64.wrap (-(n : Int))) 31 = ((32 - n : Nat) : Int)) (e2 : IntKind.u64.wrap (32 - ((32 - n : Nat) : Int)) = (n : Int)) : Turns n := by
  intro x w
  have p1 : (0 : Int) ≤ ((32 - n : Nat) : Int) := by omega
  have p2 : (0 : Int) ≤ (n : Int) := by omega
  have hr : Go.bits .or .u32 ((x.toNat : Int) * 2 ^ min (((32 - n : Nat) : Int)).toNat 32 % 4294967296) ((x.toNat : Int) / 2 ^ min ((n : Int)).toNat 32) = ((rr x n).toNat : Int) := by
    rw [show min (((32 - n : Nat) : Int)).toNat 32 = 32 - n by omega, show min ((n : Int)).toNat 32 = n by omega, m_shl, n_shr, n_or, rr, BitVec.or_comm]
  generalize hR : rr x n = R at *
  generalize ha : ((32 - n : Nat) : Int) = a at *
  generalize hb : (n : Int) = b at *
  have HR := Aside0.mk hr
  clear hR ha hb hr
  go_enter Tryd.func79, Tryd.ntmps79
  go_wp2
  go_ret
  exact ⟨by rw [← HR.out]; rfl, rfl⟩
theorem turns (n : Nat) (h0 : 0 < n) (h1 : n < 32) : Turns n := by
  refine turns_of n h0 h1 ?_ ?_
  · have : n = 1 ∨ n = 2 ∨ n = 3 ∨ n = 4 ∨ n = 5 ∨ n = 6 ∨ n = 7 ∨ n = 8 ∨ n = 9 ∨ n = 10 ∨ n = 11 ∨ n = 12 ∨ n = 13 ∨ n = 14 ∨ n = 15 ∨ n = 16 ∨ n = 17 ∨ n = 18 ∨ n = 19 ∨ n = 20 ∨ n = 21 ∨ n = 22 ∨ n = 23 ∨ n = 24 ∨ n = 25 ∨ n = 26 ∨ n = 27 ∨ n = 28 ∨ n = 29 ∨ n = 30 ∨ n = 31 := by omega
    rcases this with rfl | rfl | rfl | rfl | rfl | rfl | rfl | rfl | rfl | rfl | rfl | rfl | rfl | rfl | rfl | rfl | rfl | rfl | rfl | rfl | rfl | rfl | rfl | rfl | rfl | rfl | rfl | rfl | rfl | rfl | rfl <;> decide +kernel
  · show (32 - ((32 - n : Nat) : Int)) % 18446744073709551616 = _
    omega
theorem turn2 (x : W32) (w : World) : Calls Tryd.prog 79 #[.int .u32 (x.toNat : Int), .int .i64 (-2)] w fun e w' => e = .returned (.int .u32 ((rr x 2).toNat : Int)) ∧ w' = w := turns 2 (by decide) (by decide) x w
theorem turn6 (x : W32) (w : World) : Calls Tryd.prog 79 #[.int .u32 (x.toNat : Int), .int .i64 (-6)] w fun e w' => e = .returned (.int .u32 ((rr x 6).toNat : Int)) ∧ w' = w := turns 6 (by decide) (by decide) x w
theorem turn7 (x : W32) (w : World) : Calls Tryd.prog 79 #[.int .u32 (x.toNat : Int), .int .i64 (-7)] w fun e w' => e = .returned (.int .u32 ((rr x 7).toNat : Int)) ∧ w' = w := turns 7 (by decide) (by decide) x w
theorem turn11 (x : W32) (w : World) : Calls Tryd.prog 79 #[.int .u32 (x.toNat : Int), .int .i64 (-11)] w fun e w' => e = .returned (.int .u32 ((rr x 11).toNat : Int)) ∧ w' = w := turns 11 (by decide) (by decide) x w
theorem turn13 (x : W32) (w : World) : Calls Tryd.prog 79 #[.int .u32 (x.toNat : Int), .int .i64 (-13)] w fun e w' => e = .returned (.int .u32 ((rr x 13).toNat : Int)) ∧ w' = w := turns 13 (by decide) (by decide) x w
theorem turn17 (x : W32) (w : World) : Calls Tryd.prog 79 #[.int .u32 (x.toNat : Int), .int .i64 (-17)] w fun e w' => e = .returned (.int .u32 ((rr x 17).toNat : Int)) ∧ w' = w := turns 17 (by decide) (by decide) x w
theorem turn18 (x : W32) (w : World) : Calls Tryd.prog 79 #[.int .u32 (x.toNat : Int), .int .i64 (-18)] w fun e w' => e = .returned (.int .u32 ((rr x 18).toNat : Int)) ∧ w' = w := turns 18 (by decide) (by decide) x w
theorem turn19 (x : W32) (w : World) : Calls Tryd.prog 79 #[.int .u32 (x.toNat : Int), .int .i64 (-19)] w fun e w' => e = .returned (.int .u32 ((rr x 19).toNat : Int)) ∧ w' = w := turns 19 (by decide) (by decide) x w
theorem turn22 (x : W32) (w : World) : Calls Tryd.prog 79 #[.int .u32 (x.toNat : Int), .int .i64 (-22)] w fun e w' => e = .returned (.int .u32 ((rr x 22).toNat : Int)) ∧ w' = w := turns 22 (by decide) (by decide) x w
theorem turn25 (x : W32) (w : World) : Calls Tryd.prog 79 #[.int .u32 (x.toNat : Int), .int .i64 (-25)] w fun e w' => e = .returned (.int .u32 ((rr x 25).toNat : Int)) ∧ w' = w := turns 25 (by decide) (by decide) x w
end Go.Proofs.YtfihbohdhcidbaaDoor.Sha
