/- Two hashes and a row of texts in one memory: what is written to one leaves the others. -/
import Derived.Test.YtdfhffhnioamhaaDoorYShaSum
namespace Go.Proofs.YtdfhffhnioamhaaDoor.Sha
open Go Go.RowKit Go.Proofs.YtdfhffhnioamhaaDoorW.PrintWords Go.Proofs.YtdfhffhnioamhaaDoorW.PrintLast Go.Proofs.YtdfhffhnioamhaaDoorW.PrintMore
set_option linter.unusedVariables false
theorem typed_ne {w : World} {B1 B2 n1 n2 : Nat} {e1 e2 : TypeId} {v1 v2 : Value} {xs1 xs2 : List Value} (h1 : w.ownsRow B1 e1 1 v1 n1 xs1) (h2 : w.ownsRow B2 e2 1 v2 n2 xs2) (he : e1 ≠ e2) : ∀ k, v1.ownBlock = some k → v2.ownBlock ≠ some k := by
  intro k hk e
  obtain ⟨c1, h1⟩ := own_typed h1 k hk
  obtain ⟨c2, h2⟩ := own_typed h2 k e
  rw [h1] at h2
  simp at h2
  exact he h2.2
theorem typed_ne' {w : World} {B n g : Nat} {e t : TypeId} {v : Value} {xs : List Value} {cs : Array Value} {fr : Nat × Nat} (h1 : w.ownsRow B e 1 v n xs) (hg : w.heap[g]? = some (.cells cs t fr)) (he : e ≠ t) : ∀ k, v.ownBlock = some k → k ≠ g := by
  rintro k hk rfl
  obtain ⟨c1, h1⟩ := own_typed h1 k hk
  rw [hg] at h1
  simp at h1
  exact he h1.2.1.symm
theorem row_lt {w : World} {B n : Nat} {e : TypeId} {v : Value} {xs : List Value} (h : w.ownsRow B e 1 v n xs) : ∀ k, v.ownBlock = some k → k < w.heap.size := by
  intro k hk
  obtain ⟨c1, h1⟩ := own_typed h k hk
  exact blk_lt h1
theorem row_keep {w w' : World} {B n g : Nat} {row : Option Nat} {e : TypeId} {v : Value} {xs : List Value} (h : w.ownsRow B e 1 v n xs) (hk : KeepBut w w' g row) (hv : ∀ k, v.ownBlock = some k → k ≠ g ∧ row ≠ some k) : w'.ownsRow B e 1 v n xs :=
  own_move h (fun k hb => hk.2 k (row_lt h k hb) (hv k hb).1 (fun e => (hv k hb).2 e.symm))
theorem row_below {w w' : World} {B n : Nat} {e : TypeId} {v : Value} {xs : List Value} (h : w.ownsRow B e 1 v n xs) (hb : Below w.heap.size w w') : w'.ownsRow B e 1 v n xs :=
  own_move h (fun k hk => hb.block k (row_lt h k hk))
theorem hash_keep {w w' : World} {B g g2 : Nat} {row : Option Nat} {s : S8} {rest : List UInt8} {long : Nat} {rv : Value} (h : HashAt B w g s rest long rv) (hk : KeepBut w w' g2 row) (hg : g ≠ g2) (hr : row ≠ some g) (hv : ∀ k, rv.ownBlock = some k → k ≠ g2 ∧ row ≠ some k) : HashAt B w' g s rest long rv :=
  ⟨(hk.2 g (blk_lt h.1) hg (fun e => hr e.symm)).trans h.1, row_keep h.2.1 hk hv, h.2.2⟩
/-- A row of texts grows: a hash stays. -/
theorem hash_grown {w w' : World} {B g : Nat} {row : Option Nat} {s : S8} {rest : List UInt8} {long : Nat} {rv : Value} (h : HashAt B w g s rest long rv) (hk : w.grownBy w' row) (hr : row ≠ some g) (hv : ∀ k, rv.ownBlock = some k → row ≠ some k) : HashAt B w' g s rest long rv :=
  ⟨(hk.block g (blk_lt h.1) (fun e => hr e.symm)).trans h.1, own_move h.2.1 (fun k hb => hk.block k (row_lt h.2.1 k hb) (fun e => hv k hb e.symm)), h.2.2⟩
end Go.Proofs.YtdfhffhnioamhaaDoor.Sha
