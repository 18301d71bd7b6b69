/- A struct stored whole into its own box: the world behind it has a letter of its own. -/
import Derived.Test.YtfihbohdhcidbaaDoorWWords
namespace Go.Proofs.YtfihbohdhcidbaaDoorW.PrintWords
open Go.RowKit
section
variable {P : Program} {ops : Array Oper} {rest : List Oper} {o : Oper} {a : Act} {Q : Exit → Act → World → Prop}
theorem store_all {W : World} (hgd : o.guard = none) (ty : TypeId) (x y : Operand) (ho : o.op = .store ty x y)
    (g : Nat) (cells : Array Value) (hx : a.eval x = .pointer (some ⟨g, 0, none⟩)) (hy : a.eval y = .agg cells)
    (t : TypeId) (old : Array Value) (hg : W.heap[g]? = some (.cells old t (0, 0))) (hi : (P.info? ty).map (·.size) = some cells.size)
    (hold : old.size = cells.size) (h1 : cells.all (·.oneCell') = true)
    (h : ∀ w1, w1.heap[g]? = some (.cells cells t (0, 0)) → W.grownBy w1 (some g) → (∀ (w0 : World) (B : Nat), B ≤ g → Below B w0 W → Below B w0 w1) → wpList P ops Q rest (a.put o.dst undef) w1) :
    wpList P ops Q (o :: rest) a W :=
  wpList_store_row hgd ty x y ho g cells hx hy t old hg hi hold h1
    (h _ (setRow_heap W g old cells t _ hg)
      ⟨rfl, rfl, rfl, by simp [World.setRow], fun k _ hk => setRow_other W g k cells (fun e => hk (by rw [e]))⟩
      (fun _ _ hB hb => hb.trans ⟨rfl, rfl, rfl, by simp [World.setRow], fun k hk => setRow_other W g k cells (by omega)⟩))
theorem gate_load {t : TypeId} {p : Tmp} {W : World} (_ho : o.op = .load t (.tmp p)) (h : wpList P ops Q (o :: rest) a W) : wpList P ops Q (o :: rest) a W := h
end
end Go.Proofs.YtfihbohdhcidbaaDoorW.PrintWords
