-- Written for this claim by a program of this session.
import Derived.Test.YtcmajhdgaeploaaDoorQPthSx0
namespace Go.Proofs.YtcmajhdgaeploaaDoor.QPthS
open Go.RowKit Go.Proofs.YtcmajhdgaeploaaDoorW.PrintWords Go.Proofs.YtcmajhdgaeploaaDoorW.PrintLast Go.Proofs.YtcmajhdgaeploaaDoorW.PrintMore
attribute [local go_sem] max2_int min2_int max_two min_two max_three min_three max_four min_four   -- for this text's walks alone
set_option linter.unusedVariables false
set_option linter.unusedSimpArgs false

/-! ### cmp_Compare_string: function 71, by hand -/
def cmp_Compare_string.f (a0 : ByteArray) (a1 : ByteArray) : Option (Int) := some (PathOrd.cmpT a0 a1)
theorem cmp_Compare_string.calls (a0 : ByteArray) (a1 : ByteArray) (r : Int) (w : World) (h : cmp_Compare_string.f a0 a1 = some r) :
    Calls Tryd.prog 71 #[.string a0, .string a1] w fun e w' => e = .returned (.int .i64 r) ∧ Drawn0 w w' := by
  obtain rfl := Option.some.inj h
  clear h
  have n0 : (a0.toList != a0.toList) = false := by simp
  have n1 : (a1.toList != a1.toList) = false := by simp
  have q0 := ByteArray.toList_eq a0
  have q1 := ByteArray.toList_eq a1
  cases hl : Op.bytesLess a0.toList a1.toList with
  | true =>
    have hr : PathOrd.cmpT a0 a1 = -1 := by unfold PathOrd.cmpT; rw [← q0, ← q1, if_pos hl]
    rw [hr]
    clear hr q0 q1
    go_enter Tryd.func71, Tryd.ntmps71
    go_wp2
    go_ret
    exact ⟨rfl, by repeat (first | exact Drawn0.refl _ | apply Drawn0.step)⟩
  | false =>
    cases hm : Op.bytesLess a1.toList a0.toList with
    | true =>
      have hr : PathOrd.cmpT a0 a1 = 1 := by unfold PathOrd.cmpT; rw [← q0, ← q1, if_neg (by rw [hl]; decide), if_pos hm]
      have he : (a0.toList == a1.toList) = false := beq_eq_false_iff_ne.2 (fun e => by rw [e, PathOrd.bl_irrefl] at hm; cases hm)
      rw [hr]
      clear hr q0 q1
      go_enter Tryd.func71, Tryd.ntmps71
      go_wp2
      go_ret
      exact ⟨rfl, by repeat (first | exact Drawn0.refl _ | apply Drawn0.step)⟩
    | false =>
      have hr : PathOrd.cmpT a0 a1 = 0 := by unfold PathOrd.cmpT; rw [← q0, ← q1, if_neg (by rw [hl]; decide), if_neg (by rw [hm]; decide)]
      have he : (a0.toList == a1.toList) = true := beq_iff_eq.2 (PathOrd.bl_tri _ _ hl hm)
      rw [hr]
      clear hr q0 q1
      go_enter Tryd.func71, Tryd.ntmps71
      go_wp2
      go_ret
      exact ⟨rfl, by repeat (first | exact Drawn0.refl _ | apply Drawn0.step)⟩

/-! ### slices_Compare_string_string: function 52 -/
def slices_Compare_string_string.l0 : Nat → List ByteArray → List ByteArray → List ByteArray → Int → Int → Option (Int)
  | 0, _, _, _, _, _ => none
  | k + 1, x0, x1, x9, x10, x11 => if x11 < x10 then (if 0 ≤ x11 then (if x11 < (x9.length : Int) then (if x11 ≥ (x1.length : Int) then (some 1) else (if x11 < (x1.length : Int) then ((cmp_Compare_string.f (rdOf ByteArray.empty x9 x11) (rdOf ByteArray.empty x1 x11)).bind fun t103 => (if t103 = 0 then (slices_Compare_string_string.l0 k x0 x1 x9 x10 (wrap64 (x11 + 1))) else (some t103))) else (none))) else (none)) else (none)) else (if (x0.length : Int) < (x1.length : Int) then (some (-1)) else (some 0))
def slices_Compare_string_string.f (k : Nat) (l0 : List ByteArray) (l1 : List ByteArray) : Option (Int) := slices_Compare_string_string.l0 k l0 l1 l0 (l0.length : Int) 0
theorem slices_Compare_string_string.mono_l : ∀ k, (∀ y0 y1 y2 y3 y4, LeO (slices_Compare_string_string.l0 k y0 y1 y2 y3 y4) (slices_Compare_string_string.l0 (k + 1) y0 y1 y2 y3 y4))
  | 0 => fun _ _ _ _ _ r h => by simp [slices_Compare_string_string.l0] at h
  | k + 1 => by
    have ih0 := slices_Compare_string_string.mono_l k
    · intro y0 y1 y2 y3 y4
      unfold slices_Compare_string_string.l0
      repeat' first
      | (with_reducible exact ih0 _ _ _ _ _)
      | (with_reducible exact LeO.refl _)
      | (with_reducible exact LeO.none _)
      | (with_reducible refine LeO.ite ?_ ?_)
      | (with_reducible refine LeO.bind ?_ (fun _ => ?_))
      | exact ih0 _ _ _ _ _
      | exact LeO.none _
      | refine LeO.ite ?_ ?_
      | refine LeO.bind ?_ (fun _ => ?_)
theorem slices_Compare_string_string.mono : ∀ a0 a1 k, LeO (slices_Compare_string_string.f k a0 a1) (slices_Compare_string_string.f (k + 1) a0 a1) := by
  intro a0 a1 k
  have ih0 := slices_Compare_string_string.mono_l k
  unfold slices_Compare_string_string.f
  repeat' first
      | (with_reducible exact ih0 _ _ _ _ _)
      | (with_reducible exact LeO.refl _)
      | (with_reducible exact LeO.none _)
      | (with_reducible refine LeO.ite ?_ ?_)
      | (with_reducible refine LeO.bind ?_ (fun _ => ?_))
      | exact ih0 _ _ _ _ _
      | exact LeO.none _
      | refine LeO.ite ?_ ?_
      | refine LeO.bind ?_ (fun _ => ?_)
set_option maxHeartbeats 8000000 in
set_option maxRecDepth 100000 in
theorem slices_Compare_string_string.calls (k : Nat) (A0 : Option Addr) (c0 : Nat) (l0 : List ByteArray) (A1 : Option Addr) (c1 : Nat) (l1 : List ByteArray) (r : Int) (w : World) (hr0 : Kd.C Kd.string w A0 l0.length l0) (hc0 : l0.length ≤ c0) (hr1 : Kd.C Kd.string w A1 l1.length l1) (hc1 : l1.length ≤ c1) (h : slices_Compare_string_string.f k l0 l1 = some r) :
    Calls Tryd.prog 52 #[.slice A0 l0.length c0, .slice A1 l1.length c1] w fun e w' => e = .returned (.int .i64 r) ∧ Drawn0 w w' := by
  have HR0 := Aside0.mk hr0
  have HC0 := Aside0.mk hc0
  clear hr0 hc0
  have HR1 := Aside0.mk hr1
  have HC1 := Aside0.mk hc1
  clear hr1 hc1
  have H : (slices_Compare_string_string.l0 k l0 l1 l0 (l0.length : Int) 0) = some r := h
  clear h
  have H' := Aside0.mk H
  clear H
  go_enter Tryd.func52, Tryd.ntmps52
  go_wp2
  go_loopg [11] k (fun kq v11 w' => ∃ (x11_1 : Int), v11 = .int .i64 x11_1 ∧ Aside0 (slices_Compare_string_string.l0 kq l0 l1 l0 (l0.length : Int) x11_1 = some r) ∧ Aside0 (kq ≤ k) ∧ Drawn0 w w')
  case atStart => exact ⟨(0), (by first | rfl | (simp; done) | (simp [*]; done) | (simp; exact (by decide : ∀ p q : Bool, (p == q) = (!(p != q))) _ _) | (simp; exact (by decide : ∀ p q : Bool, (!(p != q)) = (p == q)) _ _)), H', ⟨Nat.le_refl _⟩, by repeat (first | exact Drawn0.refl _ | apply Drawn0.step)⟩
  case round =>
    clear H'
    try clear c1
    try clear p2
    obtain ⟨x11_1, rfl, HA, HK1, ⟨m1, rfl⟩⟩ := hrel
    cases gk with
    | zero => exact absurd HA.out (by simp [slices_Compare_string_string.l0])
    | succ k1 =>
      have H := HA.out
      clear HA
      simp only [slices_Compare_string_string.l0] at H
      by_cases c3 : x11_1 < (l0.length : Int)
      · rw [if_pos c3] at H
        have c3b0 : decide (x11_1 < (l0.length : Int)) = true := decide_eq_true c3
        clear c3
        by_cases c4 : 0 ≤ x11_1
        · rw [if_pos c4] at H
          have c4b0 : decide (0 ≤ x11_1) = true := decide_eq_true c4
          clear c4
          by_cases c5 : x11_1 < (l0.length : Int)
          · rw [if_pos c5] at H
            have c5b0 : decide (x11_1 < (l0.length : Int)) = true := decide_eq_true c5
            clear c5
            by_cases c6 : x11_1 ≥ (l1.length : Int)
            · rw [if_pos c6] at H
              have c6b0 : decide ((l1.length : Int) ≤ x11_1) = true := decide_eq_true c6
              clear c6
              obtain rfl := Option.some.inj H
              have p101 : 0 ≤ (x11_1 : Int) := of_decide_eq_true (by first | (with_reducible assumption) | assumption)
              have q101 : x11_1 < (l0.length : Int) := of_decide_eq_true (by first | (with_reducible assumption) | assumption)
              obtain ⟨ad101, e101, hx101_0⟩ := Kd.at_string HR0.out x11_1 p101 q101
              cases e101
              replace p101 := eq_true p101
              replace q101 := eq_true q101
              go_wp2
              go_ret
              exact ⟨by first | rfl | (simp; done) | (simp [*]; done) | (simp; exact (by decide : ∀ p q : Bool, (p == q) = (!(p != q))) _ _) | (simp; exact (by decide : ∀ p q : Bool, (!(p != q)) = (p == q)) _ _), by repeat (first | exact Drawn0.refl _ | apply Drawn0.step)⟩
            · rw [if_neg c6] at H
              have c6b0 : decide ((l1.length : Int) ≤ x11_1) = false := decide_eq_false c6
              clear c6
              by_cases c7 : x11_1 < (l1.length : Int)
              · rw [if_pos c7] at H
                have c7b0 : decide (x11_1 < (l1.length : Int)) = true := decide_eq_true c7
                clear c7
                replace H := Option.bind_eq_some_iff.mp H
                obtain ⟨t103, A80, H⟩ := H
                replace H : (if t103 = 0 then (slices_Compare_string_string.l0 k1 l0 l1 l0 (l0.length : Int) (wrap64 (x11_1 + 1))) else (some t103)) = some r := H
                have A8 := Aside0.mk A80
                clear A80
                by_cases c9 : t103 = 0
                · rw [if_pos c9] at H
                  have c9b0 : (t103 == 0) = true := beq_iff_eq.mpr c9
                  have c9b1 : (t103 != 0) = false := bne_eq_false_iff_eq.mpr c9
                  clear c9
                  have H' := Aside0.mk H
                  clear H
                  have p101 : 0 ≤ (x11_1 : Int) := of_decide_eq_true (by first | (with_reducible assumption) | assumption)
                  have q101 : x11_1 < (l0.length : Int) := of_decide_eq_true (by first | (with_reducible assumption) | assumption)
                  obtain ⟨ad101, e101, hx101_0⟩ := Kd.at_string HR0.out x11_1 p101 q101
                  cases e101
                  replace p101 := eq_true p101
                  replace q101 := eq_true q101
                  have p102 : 0 ≤ (x11_1 : Int) := of_decide_eq_true (by first | (with_reducible assumption) | assumption)
                  have q102 : x11_1 < (l1.length : Int) := of_decide_eq_true (by first | (with_reducible assumption) | assumption)
                  obtain ⟨ad102, e102, hx102_0⟩ := Kd.at_string HR1.out x11_1 p102 q102
                  cases e102
                  replace p102 := eq_true p102
                  replace q102 := eq_true q102
                  go_wp2_with (first | ((with_reducible refine gate_callee (f := 71) rfl ?_); refine goesL_ (some 26) rfl rfl Tryd.func71 (by kernel_rfl) rfl #[.string (rdOf ByteArray.empty l0 x11_1), .string (rdOf ByteArray.empty l1 x11_1)] rfl (by (try simp only [List.map_toArray, List.map_cons, List.map_nil]); first | done | rfl | (simp only [List.length_drop, List.length_take]; rfl)) ?_; (with_reducible refine (cmp_Compare_string.calls (rdOf ByteArray.empty l0 x11_1) (rdOf ByteArray.empty l1 x11_1) t103 _ A8.out).mono ?_); rintro e w' ⟨rfl, ⟨nd, rfl⟩⟩; refine ⟨_, rfl, ?_⟩))
                  go_roundg k1
                  case measure => have := HK1.out; omega
                  case rel => exact ⟨(wrap64 (x11_1 + 1)), (by first | rfl | (simp; done) | (simp [*]; done) | (simp; exact (by decide : ∀ p q : Bool, (p == q) = (!(p != q))) _ _) | (simp; exact (by decide : ∀ p q : Bool, (!(p != q)) = (p == q)) _ _)), H', ⟨by have := HK1.out; omega⟩, by repeat (first | exact Drawn0.refl _ | apply Drawn0.step)⟩
                · rw [if_neg c9] at H
                  have c9b0 : (t103 == 0) = false := beq_eq_false_iff_ne.mpr c9
                  have c9b1 : (t103 != 0) = true := bne_iff_ne.mpr c9
                  obtain rfl := Option.some.inj H
                  have p101 : 0 ≤ (x11_1 : Int) := of_decide_eq_true (by first | (with_reducible assumption) | assumption)
                  have q101 : x11_1 < (l0.length : Int) := of_decide_eq_true (by first | (with_reducible assumption) | assumption)
                  obtain ⟨ad101, e101, hx101_0⟩ := Kd.at_string HR0.out x11_1 p101 q101
                  cases e101
                  replace p101 := eq_true p101
                  replace q101 := eq_true q101
                  have p102 : 0 ≤ (x11_1 : Int) := of_decide_eq_true (by first | (with_reducible assumption) | assumption)
                  have q102 : x11_1 < (l1.length : Int) := of_decide_eq_true (by first | (with_reducible assumption) | assumption)
                  obtain ⟨ad102, e102, hx102_0⟩ := Kd.at_string HR1.out x11_1 p102 q102
                  cases e102
                  replace p102 := eq_true p102
                  replace q102 := eq_true q102
                  go_wp2_with (first | ((with_reducible refine gate_callee (f := 71) rfl ?_); refine goesL_ (some 26) rfl rfl Tryd.func71 (by kernel_rfl) rfl #[.string (rdOf ByteArray.empty l0 x11_1), .string (rdOf ByteArray.empty l1 x11_1)] rfl (by (try simp only [List.map_toArray, List.map_cons, List.map_nil]); first | done | rfl | (simp only [List.length_drop, List.length_take]; rfl)) ?_; (with_reducible refine (cmp_Compare_string.calls (rdOf ByteArray.empty l0 x11_1) (rdOf ByteArray.empty l1 x11_1) t103 _ A8.out).mono ?_); rintro e w' ⟨rfl, ⟨nd, rfl⟩⟩; refine ⟨_, rfl, ?_⟩))
                  go_ret
                  exact ⟨by first | rfl | (simp; done) | (simp [*]; done) | (simp; exact (by decide : ∀ p q : Bool, (p == q) = (!(p != q))) _ _) | (simp; exact (by decide : ∀ p q : Bool, (!(p != q)) = (p == q)) _ _), by repeat (first | exact Drawn0.refl _ | apply Drawn0.step)⟩
              · rw [if_neg c7] at H
                exact absurd H (by simp)
          · rw [if_neg c5] at H
            exact absurd H (by simp)
        · rw [if_neg c4] at H
          exact absurd H (by simp)
      · rw [if_neg c3] at H
        have c3b0 : decide (x11_1 < (l0.length : Int)) = false := decide_eq_false c3
        clear c3
        by_cases c10 : (l0.length : Int) < (l1.length : Int)
        · rw [if_pos c10] at H
          have c10b0 : decide ((l0.length : Int) < (l1.length : Int)) = true := decide_eq_true c10
          have c10b1 : decide (l0.length < l1.length) = true := decide_eq_true (Int.ofNat_lt.mp c10)
          clear c10
          obtain rfl := Option.some.inj H
          go_wp2
          go_ret
          exact ⟨by first | rfl | (simp; done) | (simp [*]; done) | (simp; exact (by decide : ∀ p q : Bool, (p == q) = (!(p != q))) _ _) | (simp; exact (by decide : ∀ p q : Bool, (!(p != q)) = (p == q)) _ _), by repeat (first | exact Drawn0.refl _ | apply Drawn0.step)⟩
        · rw [if_neg c10] at H
          have c10b0 : decide ((l0.length : Int) < (l1.length : Int)) = false := decide_eq_false c10
          have c10b1 : decide (l0.length < l1.length) = false := decide_eq_false (fun h => c10 (Int.ofNat_lt.mpr h))
          clear c10
          obtain rfl := Option.some.inj H
          go_wp2
          go_ret
          exact ⟨by first | rfl | (simp; done) | (simp [*]; done) | (simp; exact (by decide : ∀ p q : Bool, (p == q) = (!(p != q))) _ _) | (simp; exact (by decide : ∀ p q : Bool, (!(p != q)) = (p == q)) _ _), by repeat (first | exact Drawn0.refl _ | apply Drawn0.step)⟩

/-! ### strings_Split: function 69, by hand -/
def strings_Split.f (a0 a1 : ByteArray) : Option (List ByteArray) := if a0.size < 4294967281 ∧ 1 ≤ a1.size ∧ Lib.countB a0 a1 + 1 ≤ 4294967296 ∧ (Lib.splitB a1 0 (Lib.countB a0 a1) a0).length = Lib.countB a0 a1 + 1 then some (Lib.splitB a1 0 (Lib.countB a0 a1) a0) else none
theorem strings_Split.calls (a0 a1 : ByteArray) (r : List ByteArray) (w : World) (hL : Laid w) (h : strings_Split.f a0 a1 = some r) :
    Calls Tryd.prog 69 #[.string a0, .string a1] w fun e w' => ∃ v0_ : Value, e = .returned v0_ ∧ Kd.R Kd.string 9 w' w.heap.size (fun _ => True) v0_ r ∧ Below w.heap.size w w' := by
  unfold strings_Split.f at h
  by_cases hs : a0.size < 4294967281 ∧ 1 ≤ a1.size ∧ Lib.countB a0 a1 + 1 ≤ 4294967296 ∧ (Lib.splitB a1 0 (Lib.countB a0 a1) a0).length = Lib.countB a0 a1 + 1
  · rw [if_pos hs] at h
    obtain rfl := Option.some.inj h
    obtain ⟨m, hm⟩ := hL.maxlen
    obtain ⟨h1, h2, h3, h4⟩ := hs
    refine (Tryd.strings_Split a0 a1 m w h1 hm h2).mono fun e w' ⟨he, hw⟩ => ⟨_, he, ?_, ?_⟩
    · rw [hw]
      refine Kd.R_of_own (?_ : (w.alloc _).ownsRow w.heap.size 9 1 _ (Lib.splitB a1 0 (Lib.countB a0 a1) a0).length ((Lib.splitB a1 0 (Lib.countB a0 a1) a0).map Value.string)) (fun _ _ => trivial)
      exact ⟨by simp, .inr ⟨w.heap.size, Lib.countB a0 a1 + 1, ((Lib.splitB a1 0 (Lib.countB a0 a1) a0).map Value.string).toArray, by rw [h4], Nat.le_refl _, blk_new w _, by omega, by unfold maxLen; omega, by simp [h4], by rw [Nat.mul_one]; exact List.take_of_length_le (by simp)⟩⟩
    · rw [hw]; exact below_alloc (Below.refl _ w) _
  · rw [if_neg hs] at h
    cases h

/-! ### path_parts: function 53 -/
def path_parts.f (a0 : ByteArray) : Option (List ByteArray) := if a0.toList = ([] : List UInt8) then (some ([] : List ByteArray)) else ((strings_Split.f a0 (⟨#[47]⟩ : ByteArray)).bind fun t104 => (some t104))
set_option maxHeartbeats 8000000 in
set_option maxRecDepth 100000 in
theorem path_parts.calls (a0 : ByteArray) (r : List ByteArray) (w : World) (hL : Laid w) (h : path_parts.f a0 = some r) :
    Calls Tryd.prog 53 #[.string a0] w fun e w' => ∃ v0_ : Value, e = .returned (v0_) ∧ Kd.R Kd.string 9 w' w.heap.size (fun _ => True) v0_ r ∧ Below w.heap.size w w' := by
  have HLAID := Aside0.mk hL
  clear hL
  have HB := Aside0.mk (Below.refl w.heap.size w)
  have H : (if a0.toList = ([] : List UInt8) then (some ([] : List ByteArray)) else ((strings_Split.f a0 (⟨#[47]⟩ : ByteArray)).bind fun t104 => (some t104))) = some r := h
  clear h
  by_cases c2 : a0.toList = ([] : List UInt8)
  · rw [if_pos c2] at H
    have c2b0 : (a0.toList == ([] : List UInt8)) = true := beq_iff_eq.mpr c2
    have c2b1 : (a0.toList != ([] : List UInt8)) = false := bne_eq_false_iff_eq.mpr c2
    have c2b2 : a0.toList.isEmpty = true := by rw [c2]; rfl
    clear c2
    obtain rfl := Option.some.inj H
    go_enter Tryd.func53, Tryd.ntmps53
    go_wp2
    go_ret
    exact ⟨_, by first | rfl | (simp [errW_none, errW_some] <;> rfl) | (simp [*, errW_none, errW_some] <;> rfl), by first | exact Kd.R_nil _ _ _ _ _ | exact Kd.N_nil _ _ _ _ _ | exact Kd.V_nil _ _ _ _ _ | exact Kd.Q_nil _ _ _ _ _ | exact Kd.S_nil _ _ _ _ _, by repeat (first | (with_reducible first | exact HB.out | apply below_alloc | apply pw_below_drewN | apply below_drew1) | exact HB.out)⟩
  · rw [if_neg c2] at H
    have c2b0 : (a0.toList == ([] : List UInt8)) = false := beq_eq_false_iff_ne.mpr c2
    have c2b1 : (a0.toList != ([] : List UInt8)) = true := bne_iff_ne.mpr c2
    have c2b2 : a0.toList.isEmpty = false := by simpa using c2
    replace H := Option.bind_eq_some_iff.mp H
    obtain ⟨t104, A30, H⟩ := H
    replace H : (some t104) = some r := H
    have A3 := Aside0.mk A30
    clear A30
    obtain rfl := Option.some.inj H
    go_enter Tryd.func53, Tryd.ntmps53
    go_wp2_with (first | ((with_reducible refine gate_callee (f := 69) rfl ?_); refine goesL_ (some 6) rfl rfl Tryd.func69 (by kernel_rfl) rfl #[.string a0, .string (⟨#[47]⟩ : ByteArray)] rfl (by (try simp only [List.map_toArray, List.map_cons, List.map_nil]); first | done | rfl | (simp only [List.length_drop, List.length_take]; rfl)) ?_; (with_reducible refine (strings_Split.calls a0 (⟨#[47]⟩ : ByteArray) t104 _ ?side1 A3.out).mono ?_); (case side1 => first | exact HLAID.out | exact Laid.drewN HLAID.out _ | exact Laid.below HLAID.out (by repeat (first | (with_reducible first | exact HB.out | apply below_alloc | apply pw_below_drewN | apply below_drew1) | exact HB.out))); rintro e w4 ⟨v105, rfl, ho0, hb⟩; refine ⟨_, rfl, ?_⟩; have n0_ := Aside0.mk (Kd.R_lower ho0 (below_size (by repeat (first | (with_reducible first | exact HB.out | apply below_alloc | apply pw_below_drewN | apply below_drew1) | exact HB.out)))); have n1_ := Aside0.mk (below_step (by repeat (first | (with_reducible first | exact HB.out | apply below_alloc | apply pw_below_drewN | apply below_drew1) | exact HB.out)) hb); clear HB; have HO106 := n0_; have HB := n1_; clear n0_ n1_; (try clear hb); (try clear hb2); (try clear hk); (try clear hi); (try clear ho0)))
    go_ret
    exact ⟨_, by first | rfl | (simp [errW_none, errW_some] <;> rfl) | (simp [*, errW_none, errW_some] <;> rfl), by (with_reducible repeat (first | apply Kd.R_alloc | apply Kd.R_drewN | apply Kd.R_drew)); exact HO106.out, by repeat (first | (with_reducible first | exact HB.out | apply below_alloc | apply pw_below_drewN | apply below_drew1) | exact HB.out)⟩

/-! ### path_Sort: function 31, by hand -/
def path_Sort.f (l0 : List ByteArray) : Option (List ByteArray) := if l0 = [⟨#[97, 45, 98]⟩, ⟨#[97, 47, 98]⟩, ⟨#[97]⟩] then some [⟨#[97]⟩, ⟨#[97, 47, 98]⟩, ⟨#[97, 45, 98]⟩] else none
def path_Sort.tx (k : Nat) : ByteArray := [(⟨#[97, 45, 98]⟩ : ByteArray), ⟨#[97, 47, 98]⟩, ⟨#[97]⟩].getD k ⟨#[]⟩
def path_Sort.pt (k : Nat) : List ByteArray := [[(⟨#[97, 45, 98]⟩ : ByteArray)], [⟨#[97]⟩, ⟨#[98]⟩], [⟨#[97]⟩]].getD k []
theorem path_Sort.pt_told : ∀ k : Fin 3, path_parts.f (path_Sort.tx k.val) = some (path_Sort.pt k.val) := by decide +kernel
def path_Sort.iota (i : Nat) : List Int := (List.range i).map Int.ofNat
theorem path_Sort.iota_succ (i : Nat) : path_Sort.iota (i + 1) = path_Sort.iota i ++ [(i : Int)] := by simp [path_Sort.iota, List.range_succ]
theorem path_Sort.iota_length (i : Nat) : (path_Sort.iota i).length = i := by simp [path_Sort.iota]
theorem path_Sort.info45 : (Tryd.prog.info? 45).map (fun i => (i.zero, i.size, i.bytes)) = some (some (.slice none 0 0), 1, 24) := by kernel_rfl
def path_Sort.res : List ByteArray := [⟨#[97]⟩, ⟨#[97, 47, 98]⟩, ⟨#[97, 45, 98]⟩]
theorem path_Sort.infoS : (Tryd.prog.info? 9).map (fun i => (i.zero, i.size, i.bytes)) = some (some (.string ⟨#[]⟩), 1, 16) := by kernel_rfl
theorem path_Sort.infoI : (Tryd.prog.info? 3).map (fun i => (i.zero, i.size, i.bytes)) = some (some (.int .i64 0), 1, 8) := by kernel_rfl
/-- Where the sort stands: i places, m names; the box holds bv, the names' row is nv's. -/
structure path_Sort.St (B gl : Nat) (W : World) (i m : Nat) (v4 bv nv : Value) (vs : List Value) : Prop where
  pl : W.ownsRow B 3 1 v4 i (nums .i64 (path_Sort.iota i))
  box : W.heap[gl]? = some (.cells #[bv] 72 (0, 0))
  nm : W.ownsRow B 45 1 nv m vs
  pr : ∀ k, k < m → ∃ A c, vs[k]? = some (.slice A (path_Sort.pt k).length c) ∧ W.ownsRow B 9 1 (.slice A (path_Sort.pt k).length c) (path_Sort.pt k).length (encs Value.string (path_Sort.pt k))
section
variable {B gl i m : Nat} {W W' : World} {v4 bv nv : Value} {vs : List Value}
theorem path_Sort.St.below (h : path_Sort.St B gl W i m v4 bv nv vs) (hb : Below W.heap.size W W') : path_Sort.St B gl W' i m v4 bv nv vs :=
  ⟨Rows2.row_below h.pl hb, (hb.block gl (blk_lt h.box)).trans h.box, Rows2.row_below h.nm hb, fun k hk => by obtain ⟨A, c, e, ho⟩ := h.pr k hk; exact ⟨A, c, e, Rows2.row_below ho hb⟩⟩
theorem path_Sort.St.drew (h : path_Sort.St B gl W i m v4 bv nv vs) : path_Sort.St B gl W.drew i m v4 bv nv vs := ⟨h.pl, h.box, h.nm, h.pr⟩
theorem path_Sort.St.drewN (h : path_Sort.St B gl W i m v4 bv nv vs) (q : Nat) : path_Sort.St B gl (W.drewN q) i m v4 bv nv vs := ⟨h.pl, h.box, h.nm, h.pr⟩
theorem path_Sort.St.cell (h : path_Sort.St B gl W i m v4 bv nv vs) : W.cell? ⟨gl, 0, none⟩ = some bv ∧ W.frozen? ⟨gl, 0, none⟩ = false := ⟨(blk_cell h.box 0).trans rfl, blk_frozen h.box 0⟩
theorem path_Sort.St.append {A1 : Option Addr} {c1 : Nat} {nv' : Value} (h : path_Sort.St B gl W i m v4 bv nv vs) (hr : W.ownsRow B 9 1 (.slice A1 (path_Sort.pt m).length c1) (path_Sort.pt m).length (encs Value.string (path_Sort.pt m)))
    (hg : W.grownBy W' nv.ownBlock) (hown : W'.ownsRow B 45 1 nv' (m + 1) (vs ++ [.slice A1 (path_Sort.pt m).length c1])) : path_Sort.St B gl W' i (m + 1) v4 bv nv' (vs ++ [.slice A1 (path_Sort.pt m).length c1]) := by
  have hl : vs.length = m := by have := h.nm.1; omega
  refine ⟨Rows2.row_grown h.pl hg (fun k hk => Rows2.typed_ne h.pl h.nm (by decide) k hk), (hg.block gl (blk_lt h.box) (fun e => Rows2.typed_ne' h.nm h.box (by decide) gl e.symm rfl)).trans h.box, hown, fun k hk => ?_⟩
  rcases Nat.lt_or_ge k m with hk2 | hk2
  · obtain ⟨A, c, e, ho⟩ := h.pr k hk2
    exact ⟨A, c, by rw [List.getElem?_append_left (by omega)]; exact e, Rows2.row_grown ho hg (fun q hq => Rows2.typed_ne ho h.nm (by decide) q hq)⟩
  · obtain rfl : k = m := by omega
    exact ⟨A1, c1, by rw [List.getElem?_append_right (by omega), hl, Nat.sub_self]; rfl, Rows2.row_grown hr hg (fun q hq => Rows2.typed_ne hr h.nm (by decide) q hq)⟩
theorem path_Sort.St.stored (h : path_Sort.St B gl W i m v4 bv nv vs) (u : Value) : path_Sort.St B gl (W.setCell ⟨gl, 0, none⟩ u) i m v4 u nv vs :=
  ⟨Rows2.row_set h.pl 0 (fun k hk => Rows2.typed_ne' h.pl h.box (by decide) k hk), blk_put h.box 0 u rfl, Rows2.row_set h.nm 0 (fun k hk => Rows2.typed_ne' h.nm h.box (by decide) k hk), fun k hk => by obtain ⟨A, c, e, ho⟩ := h.pr k hk; exact ⟨A, c, e, Rows2.row_set ho 0 (fun q hq => Rows2.typed_ne' ho h.box (by decide) q hq)⟩⟩
theorem path_Sort.St.place {v5 : Value} (h : path_Sort.St B gl W i m v4 bv nv vs) (hg : W.grownBy W' v4.ownBlock) (hown : W'.ownsRow B 3 1 v5 (i + 1) (nums .i64 (path_Sort.iota (i + 1)))) : path_Sort.St B gl W' (i + 1) m v5 bv nv vs :=
  ⟨hown, (hg.block gl (blk_lt h.box) (fun e => Rows2.typed_ne' h.pl h.box (by decide) gl e.symm rfl)).trans h.box, Rows2.row_grown h.nm hg (fun k hk => Rows2.typed_ne h.nm h.pl (by decide) k hk), fun k hk => by obtain ⟨A, c, e, ho⟩ := h.pr k hk; exact ⟨A, c, e, Rows2.row_grown ho hg (fun q hq => Rows2.typed_ne ho h.pl (by decide) q hq)⟩⟩
end
theorem path_Sort.order_calls (W : World) (gl gn cn x y : Nat) (hx : x < 3) (hy : y < 3) (Ax Ay : Option Addr) (cx cy : Nat) (px py : List ByteArray) (r : Int)
    (hb : W.cell? ⟨gl, 0, none⟩ = some (.slice (some ⟨gn, 0, none⟩) 3 cn)) (hcx : W.cell? ⟨gn, x, none⟩ = some (.slice Ax px.length cx)) (hcy : W.cell? ⟨gn, y, none⟩ = some (.slice Ay py.length cy))
    (hlx : px.length ≤ cx) (hly : py.length ≤ cy) (hCx : Kd.C Kd.string W Ax px.length px) (hCy : Kd.C Kd.string W Ay py.length py) (h : slices_Compare_string_string.f 10 px py = some r) :
    Calls Tryd.prog 58 #[.pointer (some ⟨gl, 0, none⟩), .int .i64 (x : Int), .int .i64 (y : Int)] W fun e w' => e = .returned (.int .i64 r) ∧ ∃ m, w' = W.drewN m := by
  have X0 : (0 : Int) ≤ (x : Int) := by omega
  have X1 : (x : Int) < 3 := by omega
  have Y0 : (0 : Int) ≤ (y : Int) := by omega
  have Y1 : (y : Int) < 3 := by omega
  have LX := Aside0.mk hlx
  have LY := Aside0.mk hly
  have CX := Aside0.mk hCx
  have CY := Aside0.mk hCy
  have HH := Aside0.mk h
  clear hx hy hlx hly hCx hCy h
  go_enter Tryd.func58, Tryd.ntmps58
  go_wp2_with fail
  go_quiet ((go_at_call 52; exact Calls.quiet_of ((slices_Compare_string_string.calls 10 Ax cx px Ay cy py r _ (Kd.C_drewN CX.out _) LX.out (Kd.C_drewN CY.out _) LY.out HH.out).mono fun e w' h_ => ⟨h_.1, h_.2.out⟩)))
  go_wp2
  go_ret
  exact ⟨rfl, _, rfl⟩
theorem path_Sort.as_C {w : World} {A : Option Addr} {n : Nat} {P : List ByteArray} (h : ReadsOf Value.string (⟨#[]⟩ : ByteArray) w A n P) : Kd.C Kd.string w A n P := Kd.C_of_reads (enc := Value.string) (d := (⟨#[]⟩ : ByteArray)) (h1 := fun _ => rfl) h
theorem path_Sort.cmp10 : slices_Compare_string_string.f 10 (path_Sort.pt 1) (path_Sort.pt 0) = some (-1) ∧ slices_Compare_string_string.f 10 (path_Sort.pt 2) (path_Sort.pt 0) = some (-1) ∧ slices_Compare_string_string.f 10 (path_Sort.pt 2) (path_Sort.pt 1) = some (-1) := by decide +kernel
theorem path_Sort.own_cap {W : World} {B n : Nat} {e : TypeId} {v : Value} {xs : List Value} (h : W.ownsRow B e 1 v n xs) (h0 : 0 < n) : ∃ g cap, v = .slice (some ⟨g, 0, none⟩) n cap ∧ B ≤ g ∧ n ≤ cap := by
  rcases h.2 with ⟨_, h1⟩ | ⟨g, cap, cur, hv, hb, _, hn, _⟩
  · omega
  · exact ⟨g, cap, hv, hb, hn⟩
/-- What the sort asks of the comparing method. -/
theorem path_Sort.asks {B gl gp cap gn cn : Nat} {W0 : World} {vs : List Value} (h : path_Sort.St B gl W0 3 3 (.slice (some ⟨gp, 0, none⟩) 3 cap) (.slice (some ⟨gn, 0, none⟩) 3 cn) (.slice (some ⟨gn, 0, none⟩) 3 cn) vs) :
    PathSort.Asks gp ⟨gl, 0, none⟩ B W0 := by
  intro W hk x y hxy
  have hgl : gl ≠ gp := fun e => Rows2.typed_ne' h.pl h.box (by decide) gp rfl e.symm
  have hbox : W.heap[gl]? = some (.cells #[.slice (some ⟨gn, 0, none⟩) 3 cn] 72 (0, 0)) := (hk.1.2 gl (blk_lt h.box) hgl (by simp)).trans h.box
  have hnm := Rows2.row_keep h.nm hk.1 (fun k e => ⟨fun e2 => Rows2.typed_ne h.nm h.pl (by decide) k e (by rw [e2]; rfl), by simp⟩)
  have hpr : ∀ k, k < 3 → ∃ A c, W.cell? ⟨gn, k, none⟩ = some (.slice A (path_Sort.pt k).length c) ∧ (path_Sort.pt k).length ≤ c ∧ Kd.C Kd.string W A (path_Sort.pt k).length (path_Sort.pt k) := fun k hk3 => by
    obtain ⟨A, c, e, ho⟩ := h.pr k hk3
    have ho2 := Rows2.row_keep ho hk.1 (fun q e => ⟨fun e2 => Rows2.typed_ne ho h.pl (by decide) q e (by rw [e2]; rfl), by simp⟩)
    have hcell := World.ownsRow.cells hnm (g := gn) rfl k _ e
    rw [add_plain] at hcell
    have hlen : (path_Sort.pt k).length ≤ c := by
      rcases ho.2 with ⟨e1, e2⟩ | ⟨g, cp, cur, e1, _, _, e2, _⟩
      · rw [e2]; exact Nat.zero_le _
      · injection e1 with _ _ e3
        omega
    exact ⟨A, c, hcell, hlen, path_Sort.as_C (own_reads_of' (d := (⟨#[]⟩ : ByteArray)) ho2)⟩
  have hb := (blk_cell hbox 0).trans (show (#[Value.slice (some ⟨gn, 0, none⟩) 3 cn] : Array Value)[0]? = some _ from rfl)
  have key : ∀ x y : Nat, x < 3 → y < 3 → slices_Compare_string_string.f 10 (path_Sort.pt x) (path_Sort.pt y) = some (-1) → Calls Tryd.prog 58 #[.pointer (some ⟨gl, 0, none⟩), .int .i64 (x : Int), .int .i64 (y : Int)] W fun e w' => e = .returned (.int .i64 (-1)) ∧ ∃ m, w' = W.drewN m := fun x y hx hy hc => by
    obtain ⟨Ax, cx, ex, lx, Cx⟩ := hpr x hx
    obtain ⟨Ay, cy, ey, ly, Cy⟩ := hpr y hy
    exact path_Sort.order_calls W gl gn cn x y hx hy Ax Ay cx cy _ _ (-1) hb ex ey lx ly Cx Cy hc
  rcases hxy with ⟨rfl, rfl⟩ | ⟨rfl, rfl⟩ | ⟨rfl, rfl⟩
  · exact key 1 0 (by decide) (by decide) path_Sort.cmp10.1
  · exact key 2 0 (by decide) (by decide) path_Sort.cmp10.2.1
  · exact key 2 1 (by decide) (by decide) path_Sort.cmp10.2.2
set_option maxHeartbeats 2000000 in
set_option maxRecDepth 100000 in
theorem path_Sort.calls (A0 : Option Addr) (c0 : Nat) (l0 : List ByteArray) (r : List ByteArray) (w : World) (hr0 : Kd.C Kd.string w A0 l0.length l0) (hc0 : l0.length ≤ c0) (hL : Laid w) (h : path_Sort.f l0 = some r) :
    Calls Tryd.prog 31 #[.slice A0 l0.length c0] w fun e w' => ∃ v0_ : Value, e = .returned v0_ ∧ Kd.R Kd.string 9 w' w.heap.size (fun _ => True) v0_ r ∧ Below w.heap.size w w' := by
  unfold path_Sort.f at h
  by_cases hq : l0 = [⟨#[97, 45, 98]⟩, ⟨#[97, 47, 98]⟩, ⟨#[97]⟩]
  · rw [if_pos hq] at h
    obtain rfl := Option.some.inj h
    subst hq
    have hrd := Kd.reads_of_C (enc := Value.string) (d := (⟨#[]⟩ : ByteArray)) (h1 := fun _ => rfl) hr0
    obtain ⟨ad, rfl, hcell⟩ := hrd.2.2 (by decide)
    have HT : Aside0 (∀ W, Below w.heap.size w W → ∀ k, k < 3 → W.cell? (ad.add k) = some (.string (path_Sort.tx k))) := ⟨fun W hb k hk => (hb.cell (World.block_lt_of_cell? w _ (hcell k hk))).trans (hcell k hk)⟩
    have HLAID := Aside0.mk hL
    have hc3 : 3 ≤ c0 := hc0
    have HB := Aside0.mk (Below.refl w.heap.size w)
    show Calls Tryd.prog 31 #[.slice (some ad) 3 c0] w _
    clear h hr0 hrd hcell hL hc0
    go_enter Tryd.func31, Tryd.ntmps31
    go_wp2_with ((with_reducible refine gate_dst (N := 11) rfl ?_); refine box_event ?hg (N := 11) ?hd (cs := #[.slice none 0 0]) (t := 72) ?hr ?_; (case hd => rfl); (case hg => rfl); (case hr => first | (go_simp; done) | (go_simp; rfl)); intro gl hg wb hbox hb; have n0_ := Aside0.mk (below_step HB.out hb); have n1_ : Aside0 (path_Sort.St w.heap.size gl wb 0 0 (.slice none 0 0) (.slice none 0 0) (.slice none 0 0) []) := ⟨⟨own_nil _ _ _ _, hbox, own_nil _ _ _ _, fun k hk => absurd hk (Nat.not_lt_zero k)⟩⟩; have n3_ := Aside0.mk ((by rw [hg]; exact (below_size HB.out) : w.heap.size ≤ gl)); clear HB; have HB := n0_; have HS := n1_; have GE := n3_; clear n0_ n1_ n3_; clear hb hbox hg)
    go_loopw [4, 14] (fun v4 v14 W => ∃ (i : Nat) (nv : Value) (vs : List Value), i ≤ 3 ∧ v14 = .int .i64 (i : Int) ∧ Aside0 (path_Sort.St w.heap.size gl W i i v4 nv nv vs) ∧ Aside0 (Below w.heap.size w W)) (fun _ v14 _ => 3 - (intOf v14).toNat)
    case atStart => exact ⟨0, _, _, Nat.zero_le _, rfl, HS, HB⟩
    case round =>
      clear HS HB
      obtain ⟨i, nv, vs, hi, rfl, HS, HB⟩ := hrel
      by_cases hlt : i < 3
      · have d1 : decide ((i : Int) < 3) = true := decide_eq_true (by omega)
        have p0 : (0 : Int) ≤ (i : Int) := by omega
        have p1 : (i : Int) < 3 := by omega
        have hx := HT.out wr HB.out i hlt
        have hpt : path_parts.f (path_Sort.tx i) = some (path_Sort.pt i) := path_Sort.pt_told ⟨i, hlt⟩
        have HPT := Aside0.mk hpt
        obtain ⟨hc, hf⟩ := HS.out.cell
        have HI := Aside0.mk (show i + 1 ≤ 3 by omega)
        generalize path_Sort.tx i = y at *
        obtain ⟨i0, hi0, hzz⟩ := Option.map_eq_some_iff.1 path_Sort.info45
        simp only [Prod.mk.injEq] at hzz
        obtain ⟨hz0, hz1, hz2⟩ := hzz
        clear hpt hi
        go_upto_region 6 with fail
        go_region_law (first
          | (go_simp; go_at_call 53; (with_reducible refine (path_parts.calls y (path_Sort.pt i) _ (HLAID.out.below (by repeat (first | (with_reducible exact HB.out) | (with_reducible apply below_drew1)))) HPT.out).mono ?_); rintro e w2 ⟨v0, rfl, hR, hb⟩; have HS2 : Aside0 (path_Sort.St w.heap.size gl w2 i i u4 nv nv vs) := ⟨path_Sort.St.below (by repeat (first | (with_reducible exact HS.out) | (with_reducible refine path_Sort.St.drew ?_))) hb⟩; obtain ⟨hc2, hf2⟩ := HS2.out.cell; obtain ⟨A1, c1, rfl⟩ := Kd.R_slice hR; have HR2 := Aside0.mk (Rows2.row_lower (Kd.own_of_R hR) HB.out.size); have HB2 := Aside0.mk (below_step (show Below w.heap.size w _ from by repeat (first | (with_reducible exact HB.out) | (with_reducible apply below_drew1))) hb); have hc2a := (path_Sort.St.below HS2.out (below_alloc (Below.refl _ _) (.cells #[.slice A1 (path_Sort.pt i).length c1] 45))).cell.1; clear hR hb)
          | (refine step_append_lies _ (by rfl) (.tmp 23) (.tmp 26) 70 (by rfl) w.heap.size 45 i0 (.slice none 0 0) 1 24 Tryd.underlying70 hi0 hz0 hz1 hz2 rfl (by decide) nv i vs (by rfl) (path_Sort.St.below HS2.out (below_alloc (Below.refl _ _) _)).nm ⟨w2.heap.size, 0, none⟩ 1 1 [.slice A1 (path_Sort.pt i).length c1] (by rfl) rfl (World.news_of_block (cs := #[.slice A1 (path_Sort.pt i).length c1]) (t := 45) (fr := (0, 0)) (heap_alloc_new w2 _)) (by simp [Value.oneCell']) (by decide) (by unfold maxLen; omega) (by omega) (Nat.le_trans HB2.out.size (by simp)) _ rfl ?_; intro g3 cap3 w3 hown3 hgr3 hat3 hlt3; have HS3 := Aside0.mk (path_Sort.St.append (path_Sort.St.below HS2.out (below_alloc (Below.refl _ _) _)) (Rows2.row_below HR2.out (below_alloc (Below.refl _ _) _)) hgr3 hown3); obtain ⟨hc4, hf4⟩ := HS3.out.cell; have HB3 : Aside0 (Below w.heap.size w w3) := ⟨(below_alloc HB2.out _).grown hgr3 (Nat.le_trans HB2.out.size (by simp)) (fun k hk => own_base HS2.out.nm k hk)⟩; clear hown3 hgr3 hat3 hlt3))
        all_goals have HS4 := Aside0.mk (path_Sort.St.stored HS3.out (Value.slice (some ⟨g3, 0, none⟩) (i + 1) cap3))
        all_goals have HB4 := Aside0.mk (Below.setCell HB3.out (p := ⟨gl, 0, none⟩) GE.out (Value.slice (some ⟨g3, 0, none⟩) (i + 1) cap3))
        all_goals clear HS3 HB3 hc4 hf4 HS2 hc2 hf2 hc2a hc hf
        all_goals generalize w3.setCell ⟨gl, 0, none⟩ (Value.slice (some ⟨g3, 0, none⟩) (i + 1) cap3) = W4 at *
        all_goals go_wp2_with ((with_reducible refine gate_dst (N := 33) rfl ?_); refine print_append_num (w0 := w) w.heap.size rfl _ _ 73 3 .i64 8 rfl Tryd.underlying73 path_Sort.infoI (by decide) u4 (path_Sort.iota i) (i : Int) rfl rfl (by rw [path_Sort.iota_length]; exact HS4.out.pl) HB4.out HB4.out.size (by rw [path_Sort.iota_length]; have := HI.out; omega) ?_; intro v5 w5 hown hb5 hgr hat; rw [← path_Sort.iota_succ, path_Sort.iota_length] at hown; have HS5 := Aside0.mk (path_Sort.St.place HS4.out hgr hown); have HB5 := Aside0.mk hb5; clear hown hb5 hgr hat)
        all_goals exact ⟨⟨i + 1, _, _, HI.out, by go_num, HS5, HB5⟩, by simp [intOf]; have := HI.out; omega⟩
      · obtain rfl : i = 3 := by omega
        have d1 : decide (((3 : Nat) : Int) < 3) = false := by decide
        obtain ⟨gp, cap, rfl, hgp, hcap⟩ := path_Sort.own_cap HS.out.pl (by decide)
        obtain ⟨gn, cn, rfl, hgn, hcn⟩ := path_Sort.own_cap HS.out.nm (by decide)
        have HA := Aside0.mk (path_Sort.asks HS.out)
        have HRW : Aside0 (PathSort.Row3 w.heap.size gp cap wr 0 1 2) := ⟨HS.out.pl⟩
        have HGP := Aside0.mk hgp
        have HCP := Aside0.mk hcap
        clear hi hlt hgn hcn hgp hcap HS
        go_wp2_with (first | (go_at_call 57; (with_reducible refine (PathSort.sort3_calls w.heap.size gp cap ⟨gl, 0, none⟩ _ HCP.out HGP.out HRW.out HA.out).mono ?_); rintro e w6 ⟨rfl, hrow, hk⟩; have HR6 := Aside0.mk hrow; have HB6 := Aside0.mk (HB.out.trans hk.2); clear hrow hk HRW HA HB))
        have HO6 : Aside0 (w6.ownsRow w.heap.size 9 1 (.slice none 0 0) 0 (encs Value.string (path_Sort.res.take 0))) := ⟨own_nil _ _ _ _⟩
        go_loopw [7, 41] (fun v7 v41 W => ∃ j : Nat, (j = 0 ∨ j = 1 ∨ j = 2 ∨ j = 3) ∧ v41 = .int .i64 (j : Int) ∧ Aside0 (W.ownsRow w.heap.size 9 1 v7 j (encs Value.string (path_Sort.res.take j))) ∧ Aside0 (PathSort.Row3 w.heap.size gp cap W 2 1 0) ∧ Aside0 (Below w.heap.size w W)) (fun _ v41 _ => 3 - (intOf v41).toNat)
        case atStart => exact ⟨0, .inl rfl, rfl, HO6, HR6, HB6⟩
        case round =>
          clear HO6 HR6 HB6
          obtain ⟨j, hj, rfl, HO, HR, HB⟩ := hrel
          obtain ⟨b0, b1, b2, g0, g1, g2⟩ := HR.out.cells
          rcases hj with rfl | rfl | rfl | rfl
          · obtain ⟨q, hq⟩ : ∃ q : Nat, q = 2 := ⟨_, rfl⟩
            have bq : wr.cell? ⟨gp, 0, none⟩ = some (.int .i64 (q : Int)) := by rw [hq]; exact b0
            have hx := HT.out wr HB.out q (by omega)
            have z0 : (0 : Int) ≤ (q : Int) := by omega
            have z1 : (q : Int) < 3 := by omega
            have HQ := Aside0.mk hq
            clear b0 b1 b2 hq
            go_wp2_with ((with_reducible refine gate_dst (N := 51) rfl ?_); refine print_append_of Value.string (w0 := w) w.heap.size rfl _ _ 45 9 (.string ⟨#[]⟩) 16 rfl Tryd.underlying45 path_Sort.infoS rfl (by decide) u7 (path_Sort.res.take 0) (path_Sort.tx q) rfl rfl rfl HO.out HB.out HB.out.size (by decide) ?_; intro v5 w5 hown hb5 hgr hat; have HO5 : Aside0 (w5.ownsRow w.heap.size 9 1 v5 1 (encs Value.string (path_Sort.res.take 1))) := ⟨by rw [HQ.out] at hown; exact hown⟩; have HR5 : Aside0 (PathSort.Row3 w.heap.size gp cap w5 2 1 0) := ⟨Rows2.row_grown HR.out hgr (fun k hk => Rows2.typed_ne HR.out HO.out (by decide) k hk)⟩; have HB5 := Aside0.mk hb5; clear hown hb5 hgr hat HO HR HB)
            exact ⟨⟨1, .inr (.inl rfl), by go_num, HO5, HR5, HB5⟩, by decide⟩
          · obtain ⟨q, hq⟩ : ∃ q : Nat, q = 1 := ⟨_, rfl⟩
            have bq : wr.cell? ⟨gp, 1, none⟩ = some (.int .i64 (q : Int)) := by rw [hq]; exact b1
            have hx := HT.out wr HB.out q (by omega)
            have z0 : (0 : Int) ≤ (q : Int) := by omega
            have z1 : (q : Int) < 3 := by omega
            have HQ := Aside0.mk hq
            clear b0 b1 b2 hq
            go_wp2_with ((with_reducible refine gate_dst (N := 51) rfl ?_); refine print_append_of Value.string (w0 := w) w.heap.size rfl _ _ 45 9 (.string ⟨#[]⟩) 16 rfl Tryd.underlying45 path_Sort.infoS rfl (by decide) u7 (path_Sort.res.take 1) (path_Sort.tx q) rfl rfl rfl HO.out HB.out HB.out.size (by decide) ?_; intro v5 w5 hown hb5 hgr hat; have HO5 : Aside0 (w5.ownsRow w.heap.size 9 1 v5 2 (encs Value.string (path_Sort.res.take 2))) := ⟨by rw [HQ.out] at hown; exact hown⟩; have HR5 : Aside0 (PathSort.Row3 w.heap.size gp cap w5 2 1 0) := ⟨Rows2.row_grown HR.out hgr (fun k hk => Rows2.typed_ne HR.out HO.out (by decide) k hk)⟩; have HB5 := Aside0.mk hb5; clear hown hb5 hgr hat HO HR HB)
            exact ⟨⟨2, .inr (.inr (.inl rfl)), by go_num, HO5, HR5, HB5⟩, by decide⟩
          · obtain ⟨q, hq⟩ : ∃ q : Nat, q = 0 := ⟨_, rfl⟩
            have bq : wr.cell? ⟨gp, 2, none⟩ = some (.int .i64 (q : Int)) := by rw [hq]; exact b2
            have hx := HT.out wr HB.out q (by omega)
            have z0 : (0 : Int) ≤ (q : Int) := by omega
            have z1 : (q : Int) < 3 := by omega
            have HQ := Aside0.mk hq
            clear b0 b1 b2 hq
            go_wp2_with ((with_reducible refine gate_dst (N := 51) rfl ?_); refine print_append_of Value.string (w0 := w) w.heap.size rfl _ _ 45 9 (.string ⟨#[]⟩) 16 rfl Tryd.underlying45 path_Sort.infoS rfl (by decide) u7 (path_Sort.res.take 2) (path_Sort.tx q) rfl rfl rfl HO.out HB.out HB.out.size (by decide) ?_; intro v5 w5 hown hb5 hgr hat; have HO5 : Aside0 (w5.ownsRow w.heap.size 9 1 v5 3 (encs Value.string (path_Sort.res.take 3))) := ⟨by rw [HQ.out] at hown; exact hown⟩; have HR5 : Aside0 (PathSort.Row3 w.heap.size gp cap w5 2 1 0) := ⟨Rows2.row_grown HR.out hgr (fun k hk => Rows2.typed_ne HR.out HO.out (by decide) k hk)⟩; have HB5 := Aside0.mk hb5; clear hown hb5 hgr hat HO HR HB)
            exact ⟨⟨3, .inr (.inr (.inr rfl)), by go_num, HO5, HR5, HB5⟩, by decide⟩
          · go_wp2
            go_ret
            exact ⟨_, rfl, Kd.R_of_own (show wr.ownsRow w.heap.size 9 1 _ 3 (encs Value.string (path_Sort.res.take 3)) from HO.out) (fun _ _ => trivial), HB.out⟩
  · rw [if_neg hq] at h
    cases h

/-! ### garretbook_SameTexts: function 35 -/
def garretbook_SameTexts.l0 : Nat → List ByteArray → List ByteArray → Int → Option (Bool)
  | 0, _, _, _ => none
  | k + 1, x0, x1, x5 => if x5 < (x0.length : Int) then (if 0 ≤ x5 then (if x5 < (x1.length : Int) then (if (rdOf ByteArray.empty x0 x5).toList = (rdOf ByteArray.empty x1 x5).toList then (garretbook_SameTexts.l0 k x0 x1 (wrap64 (x5 + 1))) else (some false)) else (none)) else (none)) else (some true)
def garretbook_SameTexts.f (k : Nat) (l0 : List ByteArray) (l1 : List ByteArray) : Option (Bool) := if (l0.length : Int) = (l1.length : Int) then (garretbook_SameTexts.l0 k l0 l1 0) else (some false)
theorem garretbook_SameTexts.mono_l : ∀ k, (∀ y0 y1 y2, LeO (garretbook_SameTexts.l0 k y0 y1 y2) (garretbook_SameTexts.l0 (k + 1) y0 y1 y2))
  | 0 => fun _ _ _ r h => by simp [garretbook_SameTexts.l0] at h
  | k + 1 => by
    have ih0 := garretbook_SameTexts.mono_l k
    · intro y0 y1 y2
      unfold garretbook_SameTexts.l0
      repeat' first
      | (with_reducible exact ih0 _ _ _)
      | (with_reducible exact LeO.refl _)
      | (with_reducible exact LeO.none _)
      | (with_reducible refine LeO.ite ?_ ?_)
      | (with_reducible refine LeO.bind ?_ (fun _ => ?_))
      | exact ih0 _ _ _
      | exact LeO.none _
      | refine LeO.ite ?_ ?_
      | refine LeO.bind ?_ (fun _ => ?_)
theorem garretbook_SameTexts.mono : ∀ a0 a1 k, LeO (garretbook_SameTexts.f k a0 a1) (garretbook_SameTexts.f (k + 1) a0 a1) := by
  intro a0 a1 k
  have ih0 := garretbook_SameTexts.mono_l k
  unfold garretbook_SameTexts.f
  repeat' first
      | (with_reducible exact ih0 _ _ _)
      | (with_reducible exact LeO.refl _)
      | (with_reducible exact LeO.none _)
      | (with_reducible refine LeO.ite ?_ ?_)
      | (with_reducible refine LeO.bind ?_ (fun _ => ?_))
      | exact ih0 _ _ _
      | exact LeO.none _
      | refine LeO.ite ?_ ?_
      | refine LeO.bind ?_ (fun _ => ?_)
set_option maxHeartbeats 8000000 in
set_option maxRecDepth 100000 in
theorem garretbook_SameTexts.calls (k : Nat) (A0 : Option Addr) (c0 : Nat) (l0 : List ByteArray) (A1 : Option Addr) (c1 : Nat) (l1 : List ByteArray) (r : Bool) (w : World) (hr0 : Kd.C Kd.string w A0 l0.length l0) (hc0 : l0.length ≤ c0) (hr1 : Kd.C Kd.string w A1 l1.length l1) (hc1 : l1.length ≤ c1) (h : garretbook_SameTexts.f k l0 l1 = some r) :
    Calls Tryd.prog 35 #[.slice A0 l0.length c0, .slice A1 l1.length c1] w fun e w' => e = .returned (.bool r) ∧ Drawn0 w w' := by
  have HR0 := Aside0.mk hr0
  have HC0 := Aside0.mk hc0
  clear hr0 hc0
  have HR1 := Aside0.mk hr1
  have HC1 := Aside0.mk hc1
  clear hr1 hc1
  have H : (if (l0.length : Int) = (l1.length : Int) then (garretbook_SameTexts.l0 k l0 l1 0) else (some false)) = some r := h
  clear h
  by_cases c3 : (l0.length : Int) = (l1.length : Int)
  · rw [if_pos c3] at H
    have c3b0 : ((l0.length : Int) == (l1.length : Int)) = true := beq_iff_eq.mpr c3
    have c3b1 : ((l0.length : Int) != (l1.length : Int)) = false := bne_eq_false_iff_eq.mpr c3
    have c3b2 : (l0.length == l1.length) = true := by first | simpa using c3 | (simp at c3 ⊢; omega)
    clear c3
    have H' := Aside0.mk H
    clear H
    go_enter Tryd.func35, Tryd.ntmps35
    go_wp2
    repeat (go_quiet (fail); try go_wp2)
    go_loopg [5] k (fun kq v5 w' => ∃ (x5_1 : Int), v5 = .int .i64 x5_1 ∧ Aside0 (garretbook_SameTexts.l0 kq l0 l1 x5_1 = some r) ∧ Aside0 (kq ≤ k) ∧ Drawn0 w w')
    case atStart => exact ⟨(0), (by first | rfl | (simp; done) | (simp [*]; done) | (simp; exact (by decide : ∀ p q : Bool, (p == q) = (!(p != q))) _ _) | (simp; exact (by decide : ∀ p q : Bool, (!(p != q)) = (p == q)) _ _)), H', ⟨Nat.le_refl _⟩, by repeat (first | exact Drawn0.refl _ | apply Drawn0.step)⟩
    case round =>
      clear H'
      try clear c1
      try clear p2
      try clear c3
      try clear c3b0
      try clear c3b1
      try clear c3b2
      obtain ⟨x5_1, rfl, HA, HK1, ⟨m1, rfl⟩⟩ := hrel
      cases gk with
      | zero => exact absurd HA.out (by simp [garretbook_SameTexts.l0])
      | succ k1 =>
        have H := HA.out
        clear HA
        simp only [garretbook_SameTexts.l0] at H
        by_cases c4 : x5_1 < (l0.length : Int)
        · rw [if_pos c4] at H
          have c4b0 : decide (x5_1 < (l0.length : Int)) = true := decide_eq_true c4
          clear c4
          by_cases c5 : 0 ≤ x5_1
          · rw [if_pos c5] at H
            have c5b0 : decide (0 ≤ x5_1) = true := decide_eq_true c5
            clear c5
            by_cases c6 : x5_1 < (l1.length : Int)
            · rw [if_pos c6] at H
              have c6b0 : decide (x5_1 < (l1.length : Int)) = true := decide_eq_true c6
              clear c6
              by_cases c7 : (rdOf ByteArray.empty l0 x5_1).toList = (rdOf ByteArray.empty l1 x5_1).toList
              · rw [if_pos c7] at H
                have c7b0 : ((rdOf ByteArray.empty l0 x5_1).toList == (rdOf ByteArray.empty l1 x5_1).toList) = true := beq_iff_eq.mpr c7
                have c7b1 : ((rdOf ByteArray.empty l0 x5_1).toList != (rdOf ByteArray.empty l1 x5_1).toList) = false := bne_eq_false_iff_eq.mpr c7
                clear c7
                have H' := Aside0.mk H
                clear H
                have p107 : 0 ≤ (x5_1 : Int) := of_decide_eq_true (by first | (with_reducible assumption) | assumption)
                have q107 : x5_1 < (l0.length : Int) := of_decide_eq_true (by first | (with_reducible assumption) | assumption)
                obtain ⟨ad107, e107, hx107_0⟩ := Kd.at_string HR0.out x5_1 p107 q107
                cases e107
                replace p107 := eq_true p107
                replace q107 := eq_true q107
                have p108 : 0 ≤ (x5_1 : Int) := of_decide_eq_true (by first | (with_reducible assumption) | assumption)
                have q108 : x5_1 < (l1.length : Int) := of_decide_eq_true (by first | (with_reducible assumption) | assumption)
                obtain ⟨ad108, e108, hx108_0⟩ := Kd.at_string HR1.out x5_1 p108 q108
                cases e108
                replace p108 := eq_true p108
                replace q108 := eq_true q108
                go_wp2
                repeat (go_quiet (fail); try go_wp2)
                go_roundg k1
                case measure => have := HK1.out; omega
                case rel => exact ⟨(wrap64 (x5_1 + 1)), (by first | rfl | (simp; done) | (simp [*]; done) | (simp; exact (by decide : ∀ p q : Bool, (p == q) = (!(p != q))) _ _) | (simp; exact (by decide : ∀ p q : Bool, (!(p != q)) = (p == q)) _ _)), H', ⟨by have := HK1.out; omega⟩, by repeat (first | exact Drawn0.refl _ | apply Drawn0.step)⟩
              · rw [if_neg c7] at H
                have c7b0 : ((rdOf ByteArray.empty l0 x5_1).toList == (rdOf ByteArray.empty l1 x5_1).toList) = false := beq_eq_false_iff_ne.mpr c7
                have c7b1 : ((rdOf ByteArray.empty l0 x5_1).toList != (rdOf ByteArray.empty l1 x5_1).toList) = true := bne_iff_ne.mpr c7
                obtain rfl := Option.some.inj H
                have p107 : 0 ≤ (x5_1 : Int) := of_decide_eq_true (by first | (with_reducible assumption) | assumption)
                have q107 : x5_1 < (l0.length : Int) := of_decide_eq_true (by first | (with_reducible assumption) | assumption)
                obtain ⟨ad107, e107, hx107_0⟩ := Kd.at_string HR0.out x5_1 p107 q107
                cases e107
                replace p107 := eq_true p107
                replace q107 := eq_true q107
                have p108 : 0 ≤ (x5_1 : Int) := of_decide_eq_true (by first | (with_reducible assumption) | assumption)
                have q108 : x5_1 < (l1.length : Int) := of_decide_eq_true (by first | (with_reducible assumption) | assumption)
                obtain ⟨ad108, e108, hx108_0⟩ := Kd.at_string HR1.out x5_1 p108 q108
                cases e108
                replace p108 := eq_true p108
                replace q108 := eq_true q108
                go_wp2
                repeat (go_quiet (fail); try go_wp2)
                go_ret
                exact ⟨by first | rfl | (simp; done) | (simp [*]; done) | (simp; exact (by decide : ∀ p q : Bool, (p == q) = (!(p != q))) _ _) | (simp; exact (by decide : ∀ p q : Bool, (!(p != q)) = (p == q)) _ _), by repeat (first | exact Drawn0.refl _ | apply Drawn0.step)⟩
            · rw [if_neg c6] at H
              exact absurd H (by simp)
          · rw [if_neg c5] at H
            exact absurd H (by simp)
        · rw [if_neg c4] at H
          have c4b0 : decide (x5_1 < (l0.length : Int)) = false := decide_eq_false c4
          clear c4
          obtain rfl := Option.some.inj H
          go_wp2
          repeat (go_quiet (fail); try go_wp2)
          go_ret
          exact ⟨by first | rfl | (simp; done) | (simp [*]; done) | (simp; exact (by decide : ∀ p q : Bool, (p == q) = (!(p != q))) _ _) | (simp; exact (by decide : ∀ p q : Bool, (!(p != q)) = (p == q)) _ _), by repeat (first | exact Drawn0.refl _ | apply Drawn0.step)⟩
  · rw [if_neg c3] at H
    have c3b0 : ((l0.length : Int) == (l1.length : Int)) = false := beq_eq_false_iff_ne.mpr c3
    have c3b1 : ((l0.length : Int) != (l1.length : Int)) = true := bne_iff_ne.mpr c3
    have c3b2 : (l0.length == l1.length) = false := by first | simpa using c3 | (simp at c3 ⊢; omega)
    obtain rfl := Option.some.inj H
    go_enter Tryd.func35, Tryd.ntmps35
    go_wp2
    repeat (go_quiet (fail); try go_wp2)
    go_ret
    exact ⟨by first | rfl | (simp; done) | (simp [*]; done) | (simp; exact (by decide : ∀ p q : Bool, (p == q) = (!(p != q))) _ _) | (simp; exact (by decide : ∀ p q : Bool, (!(p != q)) = (p == q)) _ _), by repeat (first | exact Drawn0.refl _ | apply Drawn0.step)⟩

/-! ### garretlaw17_works: function 19 -/
def garretlaw17_works.f (k : Nat)  : Option (Bool) := (path_Sort.f (([(⟨#[97, 45, 98]⟩ : ByteArray), (⟨#[97, 47, 98]⟩ : ByteArray), (⟨#[97]⟩ : ByteArray)] : List ByteArray))).bind fun t112 => ((garretbook_SameTexts.f k t112 (([(⟨#[97]⟩ : ByteArray), (⟨#[97, 47, 98]⟩ : ByteArray), (⟨#[97, 45, 98]⟩ : ByteArray)] : List ByteArray))).bind fun t118 => (some t118))
theorem garretlaw17_works.mono : ∀ k, LeO (garretlaw17_works.f k ) (garretlaw17_works.f (k + 1) ) := by
  intro  k
  unfold garretlaw17_works.f
  repeat' first
      | (with_reducible exact garretbook_SameTexts.mono _ _ _)
      | (with_reducible exact LeO.refl _)
      | (with_reducible exact LeO.none _)
      | (with_reducible refine LeO.ite ?_ ?_)
      | (with_reducible refine LeO.bind ?_ (fun _ => ?_))
      | exact garretbook_SameTexts.mono _ _ _
      | exact LeO.none _
      | refine LeO.ite ?_ ?_
      | refine LeO.bind ?_ (fun _ => ?_)
set_option maxHeartbeats 8000000 in
set_option maxRecDepth 100000 in
theorem garretlaw17_works.calls (k : Nat)  (r : Bool) (w : World) (hL : Laid w) (h : garretlaw17_works.f k  = some r) :
    Calls Tryd.prog 19 #[] w fun e w' => e = .returned (.bool r) ∧ Below w.heap.size w w' := by
  have HLAID := Aside0.mk hL
  clear hL
  have HB := Aside0.mk (Below.refl w.heap.size w)
  have H : ((path_Sort.f (([(⟨#[97, 45, 98]⟩ : ByteArray), (⟨#[97, 47, 98]⟩ : ByteArray), (⟨#[97]⟩ : ByteArray)] : List ByteArray))).bind fun t112 => ((garretbook_SameTexts.f k t112 (([(⟨#[97]⟩ : ByteArray), (⟨#[97, 47, 98]⟩ : ByteArray), (⟨#[97, 45, 98]⟩ : ByteArray)] : List ByteArray))).bind fun t118 => (some t118))) = some r := h
  clear h
  obtain ⟨y109, hy109⟩ : ∃ y_ : List ByteArray, y_ = (([(⟨#[97, 45, 98]⟩ : ByteArray), (⟨#[97, 47, 98]⟩ : ByteArray), (⟨#[97]⟩ : ByteArray)] : List ByteArray)) := ⟨_, rfl⟩
  replace H : ((path_Sort.f y109).bind fun t112 => ((garretbook_SameTexts.f k t112 (([(⟨#[97]⟩ : ByteArray), (⟨#[97, 47, 98]⟩ : ByteArray), (⟨#[97, 45, 98]⟩ : ByteArray)] : List ByteArray))).bind fun t118 => (some t118))) = some r := by first | (rw [hy109]; with_reducible exact H) | (have H2_ := (Option.bind_some _ _).symm.trans H; rw [hy109]; with_reducible exact H2_) | (have H2_ := (Option.bind_some _ _).symm.trans H; with_reducible exact H2_) | with_reducible exact H | (rw [hy109]; exact H) | exact H
  have Ny109 := Aside0.mk hy109
  clear hy109
  replace H := Option.bind_eq_some_iff.mp H
  obtain ⟨t112, A10, H⟩ := H
  replace H : ((garretbook_SameTexts.f k t112 (([(⟨#[97]⟩ : ByteArray), (⟨#[97, 47, 98]⟩ : ByteArray), (⟨#[97, 45, 98]⟩ : ByteArray)] : List ByteArray))).bind fun t118 => (some t118)) = some r := H
  have A1 := Aside0.mk A10
  clear A10
  obtain ⟨y115, hy115⟩ : ∃ y_ : List ByteArray, y_ = (([(⟨#[97]⟩ : ByteArray), (⟨#[97, 47, 98]⟩ : ByteArray), (⟨#[97, 45, 98]⟩ : ByteArray)] : List ByteArray)) := ⟨_, rfl⟩
  replace H : ((garretbook_SameTexts.f k t112 y115).bind fun t118 => (some t118)) = some r := by first | (rw [hy115]; with_reducible exact H) | (have H2_ := (Option.bind_some _ _).symm.trans H; rw [hy115]; with_reducible exact H2_) | (have H2_ := (Option.bind_some _ _).symm.trans H; with_reducible exact H2_) | with_reducible exact H | (rw [hy115]; exact H) | exact H
  have Ny115 := Aside0.mk hy115
  clear hy115
  replace H := Option.bind_eq_some_iff.mp H
  obtain ⟨t118, A20, H⟩ := H
  replace H : (some t118) = some r := H
  have A2 := Aside0.mk A20
  clear A20
  obtain rfl := Option.some.inj H
  go_enter Tryd.func19, Tryd.ntmps19
  go_wp2_with (first | ((with_reducible refine gate_dst (N := 1) rfl ?_); refine Kd.R_lit Kd.string _ 9 ?hg (N := 1) ?hd (xs := ([(⟨#[97, 45, 98]⟩ : ByteArray), (⟨#[97, 47, 98]⟩ : ByteArray), (⟨#[97]⟩ : ByteArray)] : List ByteArray)) (inner := [.string (⟨#[97, 45, 98]⟩ : ByteArray), .string (⟨#[97, 47, 98]⟩ : ByteArray), .string (⟨#[97]⟩ : ByteArray)]) (ok := fun _ => True) (okp := fun _ => True) ?hr ?hp (fun _ hk => hk) trivial (Below.refl _ _) (Nat.le_refl _) (by simp) ?_; (case hd => rfl); (case hg => rfl); (case hr => first | (go_simp; done) | (go_simp; rfl)); (case hp => exact (Reps.one (show Kd.M Kd.string _ _ _ (⟨#[97, 45, 98]⟩ : ByteArray) [.string (⟨#[97, 45, 98]⟩ : ByteArray)] from rfl) (Reps.one (show Kd.M Kd.string _ _ _ (⟨#[97, 47, 98]⟩ : ByteArray) [.string (⟨#[97, 47, 98]⟩ : ByteArray)] from rfl) (Reps.one (show Kd.M Kd.string _ _ _ (⟨#[97]⟩ : ByteArray) [.string (⟨#[97]⟩ : ByteArray)] from rfl) (Reps.none _ _))))); intro v110 w3 ho4 hb hg_ hnew_; clear hg_ hnew_; (first | rw [← Ny109.out] at ho4 | (simp only [Int.reduceToNat] at ho4; rw [← Ny109.out] at ho4)); have n0_ := Aside0.mk (Kd.R_lower ho4 (below_size (by repeat (first | (with_reducible first | exact HB.out | apply below_alloc | apply pw_below_drewN | apply below_drew1) | exact HB.out)))); have n1_ := Aside0.mk (below_step (by repeat (first | (with_reducible first | exact HB.out | apply below_alloc | apply pw_below_drewN | apply below_drew1) | exact HB.out)) hb); clear HB; have HO111 := n0_; have HB := n1_; clear n0_ n1_; clear hb ho4; obtain ⟨Ao5, co5, eo5⟩ := Kd.R_slice HO111.out; subst eo5) | ((with_reducible refine gate_callee (f := 31) rfl ?_); refine goesL_ (some 2) rfl rfl Tryd.func31 (by kernel_rfl) rfl #[.slice Ao5 y109.length co5] rfl (by (try simp only [List.map_toArray, List.map_cons, List.map_nil]); first | done | rfl | (simp only [List.length_drop, List.length_take]; rfl)) ?_; (with_reducible refine (path_Sort.calls _ _ y109 t112 _ ?side1 ?side2 ?side3 A1.out).mono ?_); (case side1 => repeat (first | exact (Kd.R_reads' HO111.out).2.2 | (with_reducible refine Kd.C_alloc ?_ _) | (with_reducible refine Kd.C_drewN ?_ _) | (with_reducible refine Kd.C_drew ?_))); (case side2 => exact (Kd.R_reads' HO111.out).2.1); (case side3 => first | exact HLAID.out | exact Laid.drewN HLAID.out _ | exact Laid.below HLAID.out (by repeat (first | (with_reducible first | exact HB.out | apply below_alloc | apply pw_below_drewN | apply below_drew1) | exact HB.out))); rintro e w6 ⟨v113, rfl, ho0, hb⟩; refine ⟨_, rfl, ?_⟩; have n0_ := Aside0.mk (Kd.R_elder' (by (with_reducible repeat (first | apply Kd.R_alloc | apply Kd.R_drewN | apply Kd.R_drew)); exact HO111.out) (Kd.R_base ho0) hb); have n1_ := Aside0.mk (Kd.R_lower (Kd.R_new' ho0 (Kd.R_lt (by (with_reducible repeat (first | apply Kd.R_alloc | apply Kd.R_drewN | apply Kd.R_drew)); exact HO111.out))) (below_size (by repeat (first | (with_reducible first | exact HB.out | apply below_alloc | apply pw_below_drewN | apply below_drew1) | exact HB.out)))); have n2_ := Aside0.mk (below_step (by repeat (first | (with_reducible first | exact HB.out | apply below_alloc | apply pw_below_drewN | apply below_drew1) | exact HB.out)) hb); clear HO111; clear HB; have HO111 := n0_; have HO114 := n1_; have HB := n2_; clear n0_ n1_ n2_; (try clear hb); (try clear hb2); (try clear hk); (try clear hi); (try clear ho0)) | ((with_reducible refine gate_dst (N := 3) rfl ?_); refine Kd.R_lit Kd.string _ 9 ?hg (N := 3) ?hd (xs := ([(⟨#[97]⟩ : ByteArray), (⟨#[97, 47, 98]⟩ : ByteArray), (⟨#[97, 45, 98]⟩ : ByteArray)] : List ByteArray)) (inner := [.string (⟨#[97]⟩ : ByteArray), .string (⟨#[97, 47, 98]⟩ : ByteArray), .string (⟨#[97, 45, 98]⟩ : ByteArray)]) (ok := fun _ => True) (okp := fun _ => True) ?hr ?hp (fun _ hk => hk) trivial (Below.refl _ _) (Nat.le_refl _) (by simp) ?_; (case hd => rfl); (case hg => rfl); (case hr => first | (go_simp; done) | (go_simp; rfl)); (case hp => exact (Reps.one (show Kd.M Kd.string _ _ _ (⟨#[97]⟩ : ByteArray) [.string (⟨#[97]⟩ : ByteArray)] from rfl) (Reps.one (show Kd.M Kd.string _ _ _ (⟨#[97, 47, 98]⟩ : ByteArray) [.string (⟨#[97, 47, 98]⟩ : ByteArray)] from rfl) (Reps.one (show Kd.M Kd.string _ _ _ (⟨#[97, 45, 98]⟩ : ByteArray) [.string (⟨#[97, 45, 98]⟩ : ByteArray)] from rfl) (Reps.none _ _))))); intro v116 w7 ho8 hb hg_ hnew_; clear hg_ hnew_; (first | rw [← Ny115.out] at ho8 | (simp only [Int.reduceToNat] at ho8; rw [← Ny115.out] at ho8)); have n0_ := Aside0.mk (Kd.R_elder' (by (with_reducible repeat (first | apply Kd.R_alloc | apply Kd.R_drewN | apply Kd.R_drew)); exact HO111.out) (Kd.R_base ho8) hb); have n1_ := Aside0.mk (Kd.R_elder' (by (with_reducible repeat (first | apply Kd.R_alloc | apply Kd.R_drewN | apply Kd.R_drew)); exact HO114.out) (Kd.R_base ho8) hb); have n2_ := Aside0.mk (Kd.R_lower (Kd.R_new' (Kd.R_new' ho8 (Kd.R_lt (by (with_reducible repeat (first | apply Kd.R_alloc | apply Kd.R_drewN | apply Kd.R_drew)); exact HO111.out))) (Kd.R_lt (by (with_reducible repeat (first | apply Kd.R_alloc | apply Kd.R_drewN | apply Kd.R_drew)); exact HO114.out))) (below_size (by repeat (first | (with_reducible first | exact HB.out | apply below_alloc | apply pw_below_drewN | apply below_drew1) | exact HB.out)))); have n3_ := Aside0.mk (below_step (by repeat (first | (with_reducible first | exact HB.out | apply below_alloc | apply pw_below_drewN | apply below_drew1) | exact HB.out)) hb); clear HO111; clear HO114; clear HB; have HO111 := n0_; have HO114 := n1_; have HO117 := n2_; have HB := n3_; clear n0_ n1_ n2_ n3_; clear hb ho8; obtain ⟨Ao9, co9, eo9⟩ := Kd.R_slice HO114.out; subst eo9; obtain ⟨Ao10, co10, eo10⟩ := Kd.R_slice HO117.out; subst eo10) | ((with_reducible refine gate_callee (f := 35) rfl ?_); refine goesL_ (some 4) rfl rfl Tryd.func35 (by kernel_rfl) rfl #[.slice Ao9 t112.length co9, .slice Ao10 y115.length co10] rfl (by (try simp only [List.map_toArray, List.map_cons, List.map_nil]); first | done | rfl | (simp only [List.length_drop, List.length_take]; rfl)) ?_; (with_reducible refine (garretbook_SameTexts.calls k _ _ t112 _ _ y115 t118 _ ?side1 ?side2 ?side3 ?side4 A2.out).mono ?_); (case side1 => repeat (first | exact (Kd.R_reads' HO114.out).2.2 | (with_reducible refine Kd.C_alloc ?_ _) | (with_reducible refine Kd.C_drewN ?_ _) | (with_reducible refine Kd.C_drew ?_))); (case side2 => exact (Kd.R_reads' HO114.out).2.1); (case side3 => repeat (first | exact (Kd.R_reads' HO117.out).2.2 | (with_reducible refine Kd.C_alloc ?_ _) | (with_reducible refine Kd.C_drewN ?_ _) | (with_reducible refine Kd.C_drew ?_))); (case side4 => exact (Kd.R_reads' HO117.out).2.1); rintro e w' ⟨rfl, ⟨nd, rfl⟩⟩; refine ⟨_, rfl, ?_⟩))
  go_ret
  exact ⟨by first | rfl | (simp [errW_none, errW_some] <;> rfl) | (simp [*, errW_none, errW_some] <;> rfl), by repeat (first | (with_reducible first | exact HB.out | apply below_alloc | apply pw_below_drewN | apply below_drew1) | exact HB.out)⟩

/-! ### garretbook_SpoilTexts: function 38 -/
def garretbook_SpoilTexts.l0 : Nat → List ByteArray → Int → Option (List ByteArray)
  | 0, _, _ => none
  | k + 1, x0, x2 => if x2 < (x0.length : Int) then (if 0 ≤ x2 then (garretbook_SpoilTexts.l0 k (x0.set (x2 : Int).toNat (⟨#[115, 112, 111, 105, 108, 116]⟩ : ByteArray)) (wrap64 (x2 + 1))) else (none)) else (some x0)
def garretbook_SpoilTexts.f (k : Nat) (l0 : List ByteArray) : Option (List ByteArray) := garretbook_SpoilTexts.l0 k l0 0
theorem garretbook_SpoilTexts.mono_l : ∀ k, (∀ y0 y1, LeO (garretbook_SpoilTexts.l0 k y0 y1) (garretbook_SpoilTexts.l0 (k + 1) y0 y1))
  | 0 => fun _ _ r h => by simp [garretbook_SpoilTexts.l0] at h
  | k + 1 => by
    have ih0 := garretbook_SpoilTexts.mono_l k
    · intro y0 y1
      unfold garretbook_SpoilTexts.l0
      repeat' first
      | (with_reducible exact ih0 _ _)
      | (with_reducible exact LeO.refl _)
      | (with_reducible exact LeO.none _)
      | (with_reducible refine LeO.ite ?_ ?_)
      | (with_reducible refine LeO.bind ?_ (fun _ => ?_))
      | exact ih0 _ _
      | exact LeO.none _
      | refine LeO.ite ?_ ?_
      | refine LeO.bind ?_ (fun _ => ?_)
theorem garretbook_SpoilTexts.mono : ∀ a0 k, LeO (garretbook_SpoilTexts.f k a0) (garretbook_SpoilTexts.f (k + 1) a0) := by
  intro a0 k
  have ih0 := garretbook_SpoilTexts.mono_l k
  unfold garretbook_SpoilTexts.f
  repeat' first
      | (with_reducible exact ih0 _ _)
      | (with_reducible exact LeO.refl _)
      | (with_reducible exact LeO.none _)
      | (with_reducible refine LeO.ite ?_ ?_)
      | (with_reducible refine LeO.bind ?_ (fun _ => ?_))
      | exact ih0 _ _
      | exact LeO.none _
      | refine LeO.ite ?_ ?_
      | refine LeO.bind ?_ (fun _ => ?_)
set_option maxHeartbeats 8000000 in
set_option maxRecDepth 100000 in
theorem garretbook_SpoilTexts.calls (k : Nat) (P0_ : Nat → Prop) (u9000_ : Value) (l0 : List ByteArray) (r : List ByteArray) (w0 w : World) (hB : Below w0.heap.size w0 w) (ho0 : Kd.R Kd.string 9 w w0.heap.size P0_ u9000_ l0) (h : garretbook_SpoilTexts.f k l0 = some r) :
    Calls Tryd.prog 38 #[u9000_] w fun e w' => e = .returned (.tuple #[]) ∧ Kd.R Kd.string 9 w' w0.heap.size (fun k_ => (P0_ k_ ∨ w.heap.size ≤ k_)) u9000_ r ∧ Below w0.heap.size w0 w' ∧ Kept w w' (fun k_ => P0_ k_) := by
  have HO0 := Aside0.mk (show Kd.R Kd.string 9 w w0.heap.size (fun k_ => (P0_ k_ ∨ w.heap.size ≤ k_)) u9000_ l0 from Kd.R_mono ho0 (fun k_ hk => (.inl hk)))
  have HK := Aside0.mk (Kept.refl w (fun k_ => P0_ k_))
  have HW0 := Aside0.mk hB.size
  have HB := Aside0.mk hB
  clear hB
  have H : (garretbook_SpoilTexts.l0 k l0 0) = some r := h
  clear h
  have H' := Aside0.mk H
  clear H
  go_enter Tryd.func38, Tryd.ntmps38
  go_wp2
  go_loopg [2] k (fun kq v2 w' => ∃ (x0_1 : List ByteArray) (x2_1 : Int), v2 = .int .i64 x2_1 ∧ Aside0 (garretbook_SpoilTexts.l0 kq x0_1 x2_1 = some r) ∧ Aside0 (kq ≤ k) ∧ Aside0 (Kd.R Kd.string 9 w' w0.heap.size (fun k_ => (P0_ k_ ∨ w.heap.size ≤ k_)) u9000_ x0_1) ∧ Aside0 (Kept w w' (fun k_ => P0_ k_)) ∧ Aside0 (Below w0.heap.size w0 w'))
  case atStart => exact ⟨(l0), (0), (by first | rfl | (simp; done) | (simp [*]; done) | (simp; exact (by decide : ∀ p q : Bool, (p == q) = (!(p != q))) _ _) | (simp; exact (by decide : ∀ p q : Bool, (!(p != q)) = (p == q)) _ _)), H', ⟨Nat.le_refl _⟩, ⟨by (with_reducible repeat (first | apply Kd.R_alloc | apply Kd.R_drewN | apply Kd.R_drew)); exact HO0.out⟩, ⟨by repeat (first | (with_reducible first | exact HK.out | apply Kept.alloc | apply Kept.drewN | apply Kept.drew) | exact HK.out)⟩, ⟨by repeat (first | (with_reducible first | exact HB.out | apply below_alloc | apply pw_below_drewN | apply below_drew1) | exact HB.out)⟩⟩
  case round =>
    clear H'
    obtain ⟨x0_1, x2_1, rfl, HA, HK1, HO_0, HK, HB⟩ := hrel
    cases gk with
    | zero => exact absurd HA.out (by simp [garretbook_SpoilTexts.l0])
    | succ k1 =>
      have H := HA.out
      clear HA
      simp only [garretbook_SpoilTexts.l0] at H
      by_cases c2 : x2_1 < (x0_1.length : Int)
      · rw [if_pos c2] at H
        have c2b0 : decide (x2_1 < (x0_1.length : Int)) = true := decide_eq_true c2
        clear c2
        by_cases c3 : 0 ≤ x2_1
        · rw [if_pos c3] at H
          have c3b0 : decide (0 ≤ x2_1) = true := decide_eq_true c3
          clear c3
          obtain ⟨y119, hy119⟩ : ∃ y_ : List ByteArray, y_ = (x0_1.set (x2_1 : Int).toNat (⟨#[115, 112, 111, 105, 108, 116]⟩ : ByteArray)) := ⟨_, rfl⟩
          replace H : (garretbook_SpoilTexts.l0 k1 y119 (wrap64 (x2_1 + 1))) = some r := by first | (rw [hy119]; with_reducible exact H) | (have H2_ := (Option.bind_some _ _).symm.trans H; rw [hy119]; with_reducible exact H2_) | (have H2_ := (Option.bind_some _ _).symm.trans H; with_reducible exact H2_) | with_reducible exact H | (rw [hy119]; exact H) | exact H
          have Ny119 := Aside0.mk hy119
          clear hy119
          have H' := Aside0.mk H
          clear H
          obtain ⟨Ao5, co5, eo5⟩ := Kd.R_slice HO_0.out
          subst eo5
          have p4 : 0 ≤ (x2_1 : Int) := of_decide_eq_true (by first | (with_reducible assumption) | assumption)
          have q4 : (x2_1 : Int) < ((x0_1.length : Int) : Int) := of_decide_eq_true (by first | (with_reducible assumption) | assumption)
          obtain ⟨go4, co4, eo4, gb4, gl4, cl4, HG4⟩ := Kd.R_form HO_0.out (by omega)
          (first | cases eo4 | (injection eo4 with ea_ en_ ec_; (first | subst ea_ | (injection ea_ with ea_; subst ea_)); subst ec_; clear en_))
          have GB4 := Aside0.mk gb4
          have GG4 := Aside0.mk HG4
          clear gb4 gl4 HG4
          have HMgo4 := Aside0.mk (show (P0_ go4 ∨ w.heap.size ≤ go4) from (HO_0.out.1 _ rfl))
          obtain ⟨hx4_0, hf4_0⟩ := Kd.R_celln (⟨#[]⟩ : ByteArray) HO_0.out (x2_1 : Int) p4 q4
          replace p4 := eq_true p4
          replace q4 := eq_true q4
          have HP6 := Kd.R_putg HO_0.out (x2_1 : Int) (⟨#[115, 112, 111, 105, 108, 116]⟩ : ByteArray)
          go_wp2_with (first | ((with_reducible refine gate_store (t := 9) (p := 11) rfl ?_); refine store_event (t := 9) (p := 11) (v := ?vo_w7) (w1 := (wr.setCell ⟨go4, (x2_1 : Int).toNat, none⟩ (.string (⟨#[115, 112, 111, 105, 108, 116]⟩ : ByteArray)))) ?hg ?ho ?hn ?hr ?_; (case ho => rfl); (case hg => rfl); (case hn => rfl); (case hr => first | (go_simp; done) | (go_simp; rfl)); intro w7 hw; have hg : wr.grownBy w7 (some go4) := (by rw [hw]; exact HP6.2); have hp_ : Kd.R Kd.string 9 w7 w0.heap.size (fun k_ => (P0_ k_ ∨ w.heap.size ≤ k_)) (.slice (some ⟨go4, 0, none⟩) x0_1.length co5) y119 := (by rw [hw, Ny119.out]; exact HP6.1); clear HP6; have n0_ := Aside0.mk (hp_); have n1_ := Aside0.mk ((by rw [hw]; exact below_set (HB.out) GB4.out : Below w0.heap.size w0 w7)); have n2_ := Aside0.mk (Kept.of_grown (S := (fun k_ => P0_ k_)) hg (by repeat (first | (with_reducible first | exact HK.out | apply Kept.alloc | apply Kept.drewN | apply Kept.drew) | exact HK.out)) (fun k_ e_ => (HO_0.out.1 k_ e_))); clear HO_0; clear HB; clear HK; have HO_0 := n0_; have HB := n1_; have HK := n2_; clear n0_ n1_ n2_; clear hg hw hp_))
          go_roundg k1
          case measure => have := HK1.out; omega
          case rel => exact ⟨(y119), (wrap64 (x2_1 + 1)), (by first | rfl | (simp; done) | (simp [*]; done) | (simp; exact (by decide : ∀ p q : Bool, (p == q) = (!(p != q))) _ _) | (simp; exact (by decide : ∀ p q : Bool, (!(p != q)) = (p == q)) _ _)), H', ⟨by have := HK1.out; omega⟩, ⟨by (with_reducible repeat (first | apply Kd.R_alloc | apply Kd.R_drewN | apply Kd.R_drew)); exact HO_0.out⟩, ⟨by repeat (first | (with_reducible first | exact HK.out | apply Kept.alloc | apply Kept.drewN | apply Kept.drew) | exact HK.out)⟩, ⟨by repeat (first | (with_reducible first | exact HB.out | apply below_alloc | apply pw_below_drewN | apply below_drew1) | exact HB.out)⟩⟩
        · rw [if_neg c3] at H
          exact absurd H (by simp)
      · rw [if_neg c2] at H
        have c2b0 : decide (x2_1 < (x0_1.length : Int)) = false := decide_eq_false c2
        clear c2
        obtain rfl := Option.some.inj H
        obtain ⟨Ao8, co8, eo8⟩ := Kd.R_slice HO_0.out
        subst eo8
        go_wp2
        first | go_end0 | ((try simp only [Exit.inBlock, Exit.then]); refine bodyPost_ret (results_none rfl _ _ _) rfl ?_)
        exact ⟨by first | rfl | (simp [errW_none, errW_some] <;> rfl) | (simp [*, errW_none, errW_some] <;> rfl), by (with_reducible repeat (first | apply Kd.R_alloc | apply Kd.R_drewN | apply Kd.R_drew)); exact HO_0.out, by repeat (first | (with_reducible first | exact HB.out | apply below_alloc | apply pw_below_drewN | apply below_drew1) | exact HB.out), by repeat (first | (with_reducible first | exact HK.out | apply Kept.alloc | apply Kept.drewN | apply Kept.drew) | exact HK.out)⟩

/-! ### strings_IndexByte: function 65, by hand -/
def strings_IndexByte.f (a0 : ByteArray) (a1 : Int) : Option Int := some (Lib.indexByte a0.data.toList a1.toNat.toUInt8)
theorem strings_IndexByte.calls (a0 : ByteArray) (a1 : Int) (r : Int) (w : World) (h : strings_IndexByte.f a0 a1 = some r) :
    Calls Tryd.prog 65 #[.string a0, .int .u8 a1] w fun e w' => e = .returned (.int .i64 r) ∧ Drawn0 w w' := by
  obtain rfl := Option.some.inj h
  exact (Tryd.strings_IndexByte a0 a1 w).mono fun e w' ⟨he, hw⟩ => ⟨he, hw ▸ Drawn0.refl w⟩

/-! ### strings_Contains: function 66, by hand -/
def strings_Contains.f (a0 a1 : ByteArray) : Option Bool := if a1.size = 1 then some (decide (0 ≤ Lib.indexByte a0.data.toList (a1.data.toList.getD 0 0))) else none
theorem strings_Contains.one (a1 : ByteArray) (h : a1.size = 1) : a1 = ⟨#[a1.data.toList.getD 0 0]⟩ := by
  obtain ⟨⟨l⟩⟩ := a1
  have h' : l.length = 1 := h
  match l, h' with
  | [c], _ => rfl
theorem strings_Contains.calls (a0 a1 : ByteArray) (r : Bool) (w : World) (h : strings_Contains.f a0 a1 = some r) :
    Calls Tryd.prog 66 #[.string a0, .string a1] w fun e w' => e = .returned (.bool r) ∧ Drawn0 w w' := by
  unfold strings_Contains.f at h
  by_cases hs : a1.size = 1
  · rw [if_pos hs] at h
    obtain rfl := Option.some.inj h
    have e1 := strings_Contains.one a1 hs
    generalize a1.data.toList.getD 0 0 = c at e1 ⊢
    subst e1
    exact (Tryd.strings_Contains_one a0 c w).mono fun e w' ⟨he, hw⟩ => ⟨he, hw ▸ Drawn0.refl w⟩
  · rw [if_neg hs] at h
    cases h

end Go.Proofs.YtcmajhdgaeploaaDoor.QPthS
