/- Own rows and blocks of unlike types lie apart. -/
import Derived.Test.YtcmajhdgaeploaaDoorWWords
import Derived.Test.YtcmajhdgaeploaaDoorWLast
import Derived.Test.YtcmajhdgaeploaaDoorWMore
namespace Go.Proofs.YtcmajhdgaeploaaDoor.Rows2
open Go Go.RowKit Go.Proofs.YtcmajhdgaeploaaDoorW.PrintWords Go.Proofs.YtcmajhdgaeploaaDoorW.PrintLast Go.Proofs.YtcmajhdgaeploaaDoorW.PrintMore
set_option linter.unusedVariables false
theorem typed_ne {w : World} {B1 B2 n1 n2 : Nat} {e1 e2 : TypeId} {v1 v2 : Value} {xs1 xs2 : List Value} (h1 : w.ownsRow B1 e1 1 v1 n1 xs1) (h2 : w.ownsRow B2 e2 1 v2 n2 xs2) (he : e1 ≠ e2) : ∀ k, v1.ownBlock = some k → v2.ownBlock ≠ some k := by
  intro k hk e
  obtain ⟨c1, h1⟩ := own_typed h1 k hk
  obtain ⟨c2, h2⟩ := own_typed h2 k e
  rw [h1] at h2
  simp at h2
  exact he h2.2
theorem typed_ne' {w : World} {B n g : Nat} {e t : TypeId} {v : Value} {xs : List Value} {cs : Array Value} {fr : Nat × Nat} (h1 : w.ownsRow B e 1 v n xs) (hg : w.heap[g]? = some (.cells cs t fr)) (he : e ≠ t) : ∀ k, v.ownBlock = some k → k ≠ g := by
  rintro k hk rfl
  obtain ⟨c1, h1⟩ := own_typed h1 k hk
  rw [hg] at h1
  simp at h1
  exact he h1.2.1.symm
theorem row_lt {w : World} {B n : Nat} {e : TypeId} {v : Value} {xs : List Value} (h : w.ownsRow B e 1 v n xs) : ∀ k, v.ownBlock = some k → k < w.heap.size := by
  intro k hk
  obtain ⟨c1, h1⟩ := own_typed h k hk
  exact blk_lt h1
theorem row_keep {w w' : World} {B n g : Nat} {row : Option Nat} {e : TypeId} {v : Value} {xs : List Value} (h : w.ownsRow B e 1 v n xs) (hk : KeepBut w w' g row) (hv : ∀ k, v.ownBlock = some k → k ≠ g ∧ row ≠ some k) : w'.ownsRow B e 1 v n xs :=
  own_move h (fun k hb => hk.2 k (row_lt h k hb) (hv k hb).1 (fun e => (hv k hb).2 e.symm))
theorem row_below {w w' : World} {B n : Nat} {e : TypeId} {v : Value} {xs : List Value} (h : w.ownsRow B e 1 v n xs) (hb : Below w.heap.size w w') : w'.ownsRow B e 1 v n xs :=
  own_move h (fun k hk => hb.block k (row_lt h k hk))
theorem row_grown {w w' : World} {B n : Nat} {row : Option Nat} {e : TypeId} {v : Value} {xs : List Value} (h : w.ownsRow B e 1 v n xs) (hg : w.grownBy w' row) (hv : ∀ k, v.ownBlock = some k → row ≠ some k) : w'.ownsRow B e 1 v n xs :=
  own_move h (fun k hb => hg.block k (row_lt h k hb) (fun e => hv k hb e.symm))
theorem row_set {w : World} {B n g : Nat} {e : TypeId} {v u : Value} {xs : List Value} (h : w.ownsRow B e 1 v n xs) (j : Nat) (hv : ∀ k, v.ownBlock = some k → k ≠ g) : (w.setCell ⟨g, j, none⟩ u).ownsRow B e 1 v n xs :=
  own_move h (fun k hb => Below.heap_setCell w ⟨g, j, none⟩ u k (hv k hb))
theorem row_lower {w : World} {B B2 n : Nat} {e : TypeId} {v : Value} {xs : List Value} (h : w.ownsRow B e 1 v n xs) (hB : B2 ≤ B) : w.ownsRow B2 e 1 v n xs := by
  refine ⟨h.1, ?_⟩
  rcases h.2 with h | ⟨g, cap, cur, hv, hb, rest⟩
  · exact .inl h
  · exact .inr ⟨g, cap, cur, hv, Nat.le_trans hB hb, rest⟩
end Go.Proofs.YtcmajhdgaeploaaDoor.Rows2
