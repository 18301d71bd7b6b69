/- What the walk asks of the package-level variables: SHA-256's constants, and that the bound of package bytealg holds some number. -/
import Derived.Test.YtfihbohdhcidbaaDoorYShaTake
import Derived.WalkSmall
namespace Go.Proofs.YtfihbohdhcidbaaDoorW.PrintWords
open Go.RowKit
structure Laid (w : World) : Prop where
  consts : Go.Proofs.YtfihbohdhcidbaaDoor.Sha.Consts w
  maxlen : ∃ m : Int, w.cell? ⟨1, 0, none⟩ = some (.int .i64 m)
theorem Laid.below {w w' : World} (h : Laid w) (hb : Below w.heap.size w w') : Laid w' :=
  ⟨Go.Proofs.YtfihbohdhcidbaaDoor.Sha.Consts.below h.consts hb, by obtain ⟨m, hm⟩ := h.maxlen; exact ⟨m, (hb.cell (World.block_lt_of_cell? w _ hm)).trans hm⟩⟩
theorem Laid.drewN {w : World} (h : Laid w) (n : Nat) : Laid (w.drewN n) := Laid.below h (pw_below_drewN (Below.refl _ _) n)
theorem Laid.sha {w : World} (h : Laid w) : Go.Proofs.YtfihbohdhcidbaaDoor.Sha.Consts w := h.consts
end Go.Proofs.YtfihbohdhcidbaaDoorW.PrintWords
