/- Three places put in order by insertion, each compared to stand ahead of the ones before it: walked. -/
import Derived.Test.YtcmajhdgaeploaaDoorProg
import Derived.Test.YtcmajhdgaeploaaDoorWWords
import Derived.Test.YtcmajhdgaeploaaDoorWLast
import Derived.Test.YtcmajhdgaeploaaDoorWMore
import Derived.WalkKit
import Derived.BigQuiet
import Derived.BigRegion
import Derived.Deep.QuietTactic
import Derived.Deep.LoopGhost
namespace Go.Proofs.YtcmajhdgaeploaaDoor.PathSort
open Go Go.RowKit Go.Proofs.YtcmajhdgaeploaaDoorW.PrintWords Go.Proofs.YtcmajhdgaeploaaDoorW.PrintLast Go.Proofs.YtcmajhdgaeploaaDoorW.PrintMore
set_option linter.unusedVariables false
set_option linter.unusedSimpArgs false
/-- A row of three whole numbers. -/
def Row3 (B gp cap : Nat) (W : World) (a b c : Int) : Prop := W.ownsRow B 3 1 (.slice (some ⟨gp, 0, none⟩) 3 cap) 3 (nums .i64 [a, b, c])
theorem Row3.cells {B gp cap : Nat} {W : World} {a b c : Int} (h : Row3 B gp cap W a b c) : W.cell? ⟨gp, 0, none⟩ = some (.int .i64 a) ∧ W.cell? ⟨gp, 1, none⟩ = some (.int .i64 b) ∧ W.cell? ⟨gp, 2, none⟩ = some (.int .i64 c) ∧ W.frozen? ⟨gp, 0, none⟩ = false ∧ W.frozen? ⟨gp, 1, none⟩ = false ∧ W.frozen? ⟨gp, 2, none⟩ = false := by
  have e : ∀ j, (⟨gp, 0, none⟩ : Addr).add j = ⟨gp, j, none⟩ := fun j => add_plain gp j
  have h0 := World.ownsRow.cells h (g := gp) rfl 0 (.int .i64 a) rfl
  have h1 := World.ownsRow.cells h (g := gp) rfl 1 (.int .i64 b) rfl
  have h2 := World.ownsRow.cells h (g := gp) rfl 2 (.int .i64 c) rfl
  rw [e] at h0 h1 h2
  exact ⟨h0, h1, h2, World.ownsRow.frozenAt h 0, World.ownsRow.frozenAt h 1, World.ownsRow.frozenAt h 2⟩
theorem Row3.drew {B gp cap : Nat} {W : World} {a b c : Int} (h : Row3 B gp cap W a b c) : Row3 B gp cap W.drew a b c := h
theorem Row3.drewN {B gp cap : Nat} {W : World} {a b c : Int} (h : Row3 B gp cap W a b c) (n : Nat) : Row3 B gp cap (W.drewN n) a b c := h
theorem Row3.set0 {B gp cap : Nat} {W : World} {a b c : Int} (h : Row3 B gp cap W a b c) (x : Int) : Row3 B gp cap (W.setCell ⟨gp, 0, none⟩ (.int .i64 x)) x b c := (World.ownsRow.stored h 0 (.int .i64 x)).1
theorem Row3.set1 {B gp cap : Nat} {W : World} {a b c : Int} (h : Row3 B gp cap W a b c) (x : Int) : Row3 B gp cap (W.setCell ⟨gp, 1, none⟩ (.int .i64 x)) a x c := (World.ownsRow.stored h 1 (.int .i64 x)).1
theorem Row3.set2 {B gp cap : Nat} {W : World} {a b c : Int} (h : Row3 B gp cap W a b c) (x : Int) : Row3 B gp cap (W.setCell ⟨gp, 2, none⟩ (.int .i64 x)) a b x := (World.ownsRow.stored h 2 (.int .i64 x)).1
/-- What is kept while the row is turned. -/
def Kp (B gp : Nat) (w W : World) : Prop := KeepBut w W gp none ∧ Below B w W
theorem Kp.refl (B gp : Nat) (w : World) : Kp B gp w w := ⟨KeepBut.refl _ _ _, Below.refl _ _⟩
theorem Kp.drew {B gp : Nat} {w W : World} (h : Kp B gp w W) : Kp B gp w W.drew := ⟨⟨h.1.1, h.1.2⟩, below_drew1 h.2⟩
theorem Kp.drewN {B gp : Nat} {w W : World} (h : Kp B gp w W) (n : Nat) : Kp B gp w (W.drewN n) := ⟨⟨h.1.1, h.1.2⟩, pw_below_drewN h.2 n⟩
theorem Kp.set_ {B gp : Nat} {w W : World} (h : Kp B gp w W) (hB : B ≤ gp) (j : Nat) (u : Value) : Kp B gp w (W.setCell ⟨gp, j, none⟩ u) := ⟨KeepBut.set_ h.1 j u, Below.setCell h.2 (p := ⟨gp, j, none⟩) hB u⟩
/-- What is asked of the comparing function: asked of a place and an earlier one it says 'ahead'. -/
def Asks (gp : Nat) (L : Addr) (B : Nat) (w : World) : Prop := ∀ W, Kp B gp w W → ∀ x y : Int, ((x = 1 ∧ y = 0) ∨ (x = 2 ∧ y = 0) ∨ (x = 2 ∧ y = 1)) →
  Calls Tryd.prog 58 #[.pointer (some L), .int .i64 x, .int .i64 y] W fun e w' => e = .returned (.int .i64 (-1)) ∧ ∃ m, w' = W.drewN m
theorem Asks.at_ {gp B : Nat} {L : Addr} {w W : World} (h : Asks gp L B w) (hk : Kp B gp w W) (n : Nat) (x y : Int) (hx : (x = 1 ∧ y = 0) ∨ (x = 2 ∧ y = 0) ∨ (x = 2 ∧ y = 1)) :
    Calls Tryd.prog 58 #[.pointer (some L), .int .i64 x, .int .i64 y] (W.drewN n) fun e w' => e = .returned (.int .i64 (-1)) ∧ ∃ m, w' = W.drewN m :=
  Calls.quiet_of (h (W.drewN n) (hk.drewN n) x y hx)
set_option maxHeartbeats 1000000 in
set_option maxRecDepth 100000 in
theorem ins3_calls (B gp cap : Nat) (L : Addr) (w : World) (hc : 3 ≤ cap) (hB : B ≤ gp) (hr : Row3 B gp cap w 0 1 2) (ha : Asks gp L B w) :
    Calls Tryd.prog 85 #[.slice (some ⟨gp, 0, none⟩) 3 cap, .int .i64 0, .int .i64 3, .func (.func 58) #[.pointer (some L)] #[]] w fun e w' =>
      e = .returned (.tuple #[]) ∧ Row3 B gp cap w' 2 1 0 ∧ Kp B gp w w' := by
  have HR := Aside0.mk hr
  have HA := Aside0.mk ha
  have HBG := Aside0.mk hB
  have HK := Aside0.mk (Kp.refl B gp w)
  clear hr ha hB
  go_enter Tryd.func85, Tryd.ntmps85
  go_wp2
  go_loopw [8] (fun v8 W => ∃ i a b c : Int, v8 = .int .i64 i ∧ ((i = 1 ∧ a = 0 ∧ b = 1 ∧ c = 2) ∨ (i = 2 ∧ a = 1 ∧ b = 0 ∧ c = 2) ∨ (i = 3 ∧ a = 2 ∧ b = 1 ∧ c = 0)) ∧ Aside0 (Row3 B gp cap W a b c) ∧ Aside0 (Kp B gp w W)) (fun v8 _ => 3 - (intOf v8).toNat)
  case atStart => exact ⟨1, 0, 1, 2, rfl, .inl ⟨rfl, rfl, rfl, rfl⟩, HR, HK⟩
  case round =>
    clear HR HK
    obtain ⟨i, a, b, c, rfl, hs, HR, HK⟩ := hrel
    rcases hs with ⟨rfl, rfl, rfl, rfl⟩ | ⟨rfl, rfl, rfl, rfl⟩ | ⟨rfl, rfl, rfl, rfl⟩
    · go_wp2
      go_loopw [9] (fun v9 W => ∃ j p q r : Int, v9 = .int .i64 j ∧ ((j = 1 ∧ p = 0 ∧ q = 1 ∧ r = 2) ∨ (j = 0 ∧ p = 1 ∧ q = 0 ∧ r = 2)) ∧ Aside0 (Row3 B gp cap W p q r) ∧ Aside0 (Kp B gp w W)) (fun v9 _ => (intOf v9).toNat)
      case atStart => exact ⟨1, 0, 1, 2, rfl, .inl ⟨rfl, rfl, rfl, rfl⟩, HR, HK⟩
      case round =>
        clear HR HK
        obtain ⟨j, p, q, r, rfl, hs, HR, HK⟩ := hrel
        rcases hs with ⟨rfl, rfl, rfl, rfl⟩ | ⟨rfl, rfl, rfl, rfl⟩
        · obtain ⟨c0, c1, c2, f0, f1, f2⟩ := HR.out.cells
          go_wp2_with fail
          go_quiet ((go_at_call 58; exact HA.out.at_ HK.out _ 1 0 (by decide)))
          go_wp2
          go_region
          all_goals go_wp2
          refine ⟨⟨0, 1, 0, 2, rfl, .inr ⟨rfl, rfl, rfl, rfl⟩, ⟨((HR.out.drewN _).set1 0).set0 1⟩, ⟨((HK.out.drewN _).set_ HBG.out 1 _).set_ HBG.out 0 _⟩⟩, by decide⟩
        · go_wp2_with fail
          go_quiet (fail)
          go_wp2
          refine ⟨⟨2, 1, 0, 2, rfl, .inr (.inl ⟨rfl, rfl, rfl, rfl⟩), ⟨HR.out.drewN _⟩, ⟨HK.out.drewN _⟩⟩, by decide⟩
    · go_wp2
      go_loopw [9] (fun v9 W => ∃ j p q r : Int, v9 = .int .i64 j ∧ ((j = 2 ∧ p = 1 ∧ q = 0 ∧ r = 2) ∨ (j = 1 ∧ p = 1 ∧ q = 2 ∧ r = 0) ∨ (j = 0 ∧ p = 2 ∧ q = 1 ∧ r = 0)) ∧ Aside0 (Row3 B gp cap W p q r) ∧ Aside0 (Kp B gp w W)) (fun v9 _ => (intOf v9).toNat)
      case atStart => exact ⟨2, 1, 0, 2, rfl, .inl ⟨rfl, rfl, rfl, rfl⟩, HR, HK⟩
      case round =>
        clear HR HK
        obtain ⟨j, p, q, r, rfl, hs, HR, HK⟩ := hrel
        rcases hs with ⟨rfl, rfl, rfl, rfl⟩ | ⟨rfl, rfl, rfl, rfl⟩ | ⟨rfl, rfl, rfl, rfl⟩
        · obtain ⟨c0, c1, c2, f0, f1, f2⟩ := HR.out.cells
          go_wp2_with fail
          go_quiet ((go_at_call 58; exact HA.out.at_ HK.out _ 2 0 (by decide)))
          go_wp2
          go_region
          all_goals go_wp2
          refine ⟨⟨1, 1, 2, 0, rfl, .inr (.inl ⟨rfl, rfl, rfl, rfl⟩), ⟨((HR.out.drewN _).set2 0).set1 2⟩, ⟨((HK.out.drewN _).set_ HBG.out 2 _).set_ HBG.out 1 _⟩⟩, by decide⟩
        · obtain ⟨c0, c1, c2, f0, f1, f2⟩ := HR.out.cells
          go_wp2_with fail
          go_quiet ((go_at_call 58; exact HA.out.at_ HK.out _ 2 1 (by decide)))
          go_wp2
          go_region
          all_goals go_wp2
          refine ⟨⟨0, 2, 1, 0, rfl, .inr (.inr ⟨rfl, rfl, rfl, rfl⟩), ⟨((HR.out.drewN _).set1 1).set0 2⟩, ⟨((HK.out.drewN _).set_ HBG.out 1 _).set_ HBG.out 0 _⟩⟩, by decide⟩
        · go_wp2_with fail
          go_quiet (fail)
          go_wp2
          refine ⟨⟨3, 2, 1, 0, rfl, .inr (.inr ⟨rfl, rfl, rfl, rfl⟩), ⟨HR.out.drewN _⟩, ⟨HK.out.drewN _⟩⟩, by decide⟩
    · go_wp2
      go_end0
      exact ⟨rfl, HR.out, HK.out⟩
end Go.Proofs.YtcmajhdgaeploaaDoor.PathSort
