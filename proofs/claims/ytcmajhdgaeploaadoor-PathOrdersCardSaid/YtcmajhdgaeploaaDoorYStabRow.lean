/- A row of whole numbers of the call's own: its cells, and what stays while it is turned: words. -/
import Derived.Test.YtcmajhdgaeploaaDoorProg
import Derived.Test.YtcmajhdgaeploaaDoorWWords
import Derived.Test.YtcmajhdgaeploaaDoorWLast
import Derived.Test.YtcmajhdgaeploaaDoorWMore
import Derived.Test.YtcmajhdgaeploaaDoorYStabPl
import Derived.WalkKit
import Derived.BigQuiet
import Derived.BigRegion
import Derived.Deep.QuietTactic
import Derived.Deep.LoopGhost
import Derived.IntWalk
namespace Go.Proofs.YtcmajhdgaeploaaDoor.Stab
open Go Go.RowKit Go.Proofs.YtcmajhdgaeploaaDoorW.PrintWords Go.Proofs.YtcmajhdgaeploaaDoorW.PrintLast Go.Proofs.YtcmajhdgaeploaaDoorW.PrintMore
set_option linter.unusedVariables false
set_option linter.unusedSimpArgs false
/-- The row gp holds xs. -/
def Row (B gp n cap : Nat) (W : World) (xs : List Int) : Prop := W.ownsRow B 3 1 (.slice (some ⟨gp, 0, none⟩) n cap) n (nums .i64 xs)
theorem Row.len {B gp n cap : Nat} {W : World} {xs : List Int} (h : Row B gp n cap W xs) : xs.length = n := by
  have := h.1
  rw [nums_length] at this
  omega
theorem Row.cap {B gp n cap : Nat} {W : World} {xs : List Int} (h : Row B gp n cap W xs) : n ≤ cap := by
  rcases h.2 with ⟨h1, _⟩ | ⟨g, c, cur, h1, _, _, h2, _⟩
  · cases h1
  · injection h1 with _ _ e
    omega
theorem Row.base {B gp n cap : Nat} {W : World} {xs : List Int} (h : Row B gp n cap W xs) : B ≤ gp := by
  rcases h.2 with ⟨h1, _⟩ | ⟨g, c, cur, h1, h2, _⟩
  · cases h1
  · injection h1 with e _ _
    injection e with e
    injection e with e
    omega
theorem Row.cell {B gp n cap : Nat} {W : World} {xs : List Int} (h : Row B gp n cap W xs) (k : Nat) (hk : k < n) : W.cell? ⟨gp, k, none⟩ = some (.int .i64 (g xs k)) ∧ W.frozen? ⟨gp, k, none⟩ = false := by
  have hl := h.len
  have := World.ownsRow.cells h (g := gp) rfl k (.int .i64 (g xs k)) (by
    unfold nums
    rw [List.getElem?_map, List.getElem?_eq_getElem (by omega), g_get (by omega)]
    rfl)
  rw [add_plain] at this
  exact ⟨this, World.ownsRow.frozenAt h k⟩
theorem Row.drew {B gp n cap : Nat} {W : World} {xs : List Int} (h : Row B gp n cap W xs) : Row B gp n cap W.drew xs := h
theorem Row.drewN {B gp n cap : Nat} {W : World} {xs : List Int} (h : Row B gp n cap W xs) (q : Nat) : Row B gp n cap (W.drewN q) xs := h
theorem Row.set_ {B gp n cap : Nat} {W : World} {xs : List Int} (h : Row B gp n cap W xs) (k : Nat) (v : Int) : Row B gp n cap (W.setCell ⟨gp, k, none⟩ (.int .i64 v)) (xs.set k v) := by
  have := (World.ownsRow.stored h k (.int .i64 v)).1
  unfold Row
  have e : nums .i64 (xs.set k v) = (nums .i64 xs).set k (.int .i64 v) := by unfold nums; rw [List.map_set]
  rw [e]
  exact this
theorem Row.cell2 {B gp n cap : Nat} {W : World} {xs : List Int} (h : Row B gp n cap W xs) (p q : Nat) (v : Int) (hp : p < n) (hq : q < n) (hne : q ≠ p) : (W.setCell ⟨gp, p, none⟩ (.int .i64 v)).cell? ⟨gp, q, none⟩ = some (.int .i64 (g xs q)) ∧ (W.setCell ⟨gp, p, none⟩ (.int .i64 v)).frozen? ⟨gp, q, none⟩ = false := by
  have := (h.set_ p v).cell q hq
  rwa [g_set v (by rw [h.len]; exact hp), if_neg hne] at this
theorem Row.swap {B gp n cap : Nat} {W : World} {xs : List Int} (h : Row B gp n cap W xs) (p q : Nat) : Row B gp n cap ((W.setCell ⟨gp, p, none⟩ (.int .i64 (g xs q))).setCell ⟨gp, q, none⟩ (.int .i64 (g xs p))) (sw xs p q) := (h.set_ p _).set_ q _
/-- What stays while the row is turned. -/
def Kp (B gp : Nat) (w W : World) : Prop := KeepBut w W gp none ∧ Below B w W
theorem Kp.refl (B gp : Nat) (w : World) : Kp B gp w w := ⟨KeepBut.refl _ _ _, Below.refl _ _⟩
theorem Kp.drew {B gp : Nat} {w W : World} (h : Kp B gp w W) : Kp B gp w W.drew := ⟨⟨h.1.1, h.1.2⟩, below_drew1 h.2⟩
theorem Kp.drewN {B gp : Nat} {w W : World} (h : Kp B gp w W) (n : Nat) : Kp B gp w (W.drewN n) := ⟨⟨h.1.1, h.1.2⟩, pw_below_drewN h.2 n⟩
theorem Kp.set_ {B gp : Nat} {w W : World} (h : Kp B gp w W) (hB : B ≤ gp) (j : Nat) (u : Value) : Kp B gp w (W.setCell ⟨gp, j, none⟩ u) := ⟨KeepBut.set_ h.1 j u, Below.setCell h.2 (p := ⟨gp, j, none⟩) hB u⟩
theorem Kp.trans {B gp : Nat} {w W W' : World} (h : Kp B gp w W) (h2 : Kp B gp W W') : Kp B gp w W' := ⟨KeepBut.trans h.1 h2.1 (.inl rfl), h.2.trans h2.2⟩
/-- What is asked of the comparing function: it tells how two numbers of the right kind stand, and turns nothing. -/
def Asks (gp : Nat) (L : Addr) (B : Nat) (w : World) (o : Int → Int → Int) (ok : Int → Prop) : Prop := ∀ W, Kp B gp w W → ∀ x y : Int, ok x → ok y →
  Calls Tryd.prog 58 #[.pointer (some L), .int .i64 x, .int .i64 y] W fun e w' => e = .returned (.int .i64 (o x y)) ∧ ∃ m, w' = W.drewN m
theorem Asks.at_ {gp B : Nat} {L : Addr} {w W : World} {o : Int → Int → Int} {ok : Int → Prop} (h : Asks gp L B w o ok) (hk : Kp B gp w W) (n : Nat) (x y : Int) (hx : ok x) (hy : ok y) :
    Calls Tryd.prog 58 #[.pointer (some L), .int .i64 x, .int .i64 y] (W.drewN n) fun e w' => e = .returned (.int .i64 (o x y)) ∧ ∃ m, w' = W.drewN m :=
  Calls.quiet_of (h (W.drewN n) (hk.drewN n) x y hx hy)
theorem Asks.move {gp B : Nat} {L : Addr} {w W : World} {o : Int → Int → Int} {ok : Int → Prop} (h : Asks gp L B w o ok) (hk : Kp B gp w W) : Asks gp L B W o ok := fun W' hk' => h W' (hk.trans hk')
/-- All numbers of the right kind. -/
def AllOk (ok : Int → Prop) (xs : List Int) : Prop := ∀ x ∈ xs, ok x
theorem AllOk.at_ {ok : Int → Prop} {xs : List Int} (h : AllOk ok xs) {k : Nat} (hk : k < xs.length) : ok (g xs k) := by rw [g_get hk]; exact h _ (List.getElem_mem hk)
theorem AllOk.perm {ok : Int → Prop} {xs ys : List Int} (h : AllOk ok xs) (hp : ys.Perm xs) : AllOk ok ys := fun x hx => h x (hp.mem_iff.1 hx)
theorem w64 {x : Int} (h0 : -9223372036854775808 ≤ x) (h1 : x < 9223372036854775808) : wrap64 x = x := by unfold wrap64; omega
end Go.Proofs.YtcmajhdgaeploaaDoor.Stab
