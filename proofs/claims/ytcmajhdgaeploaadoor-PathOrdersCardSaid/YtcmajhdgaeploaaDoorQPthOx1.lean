-- Written for this claim by a program of this session.
import Derived.Test.YtcmajhdgaeploaaDoorQPthOx0
namespace Go.Proofs.YtcmajhdgaeploaaDoor.QPthO
open Go.RowKit Go.Proofs.YtcmajhdgaeploaaDoorW.PrintWords Go.Proofs.YtcmajhdgaeploaaDoorW.PrintLast Go.Proofs.YtcmajhdgaeploaaDoorW.PrintMore
attribute [local go_sem] max2_int min2_int max_two min_two max_three min_three max_four min_four   -- for this text's walks alone
set_option linter.unusedVariables false
set_option linter.unusedSimpArgs false

/-! ### cmp_Compare_string: function 71, by hand -/
def cmp_Compare_string.f (a0 : ByteArray) (a1 : ByteArray) : Option (Int) := some (PathOrd.cmpT a0 a1)
theorem cmp_Compare_string.calls (a0 : ByteArray) (a1 : ByteArray) (r : Int) (w : World) (h : cmp_Compare_string.f a0 a1 = some r) :
    Calls Tryd.prog 71 #[.string a0, .string a1] w fun e w' => e = .returned (.int .i64 r) ∧ Drawn0 w w' := by
  obtain rfl := Option.some.inj h
  clear h
  have n0 : (a0.toList != a0.toList) = false := by simp
  have n1 : (a1.toList != a1.toList) = false := by simp
  have q0 := ByteArray.toList_eq a0
  have q1 := ByteArray.toList_eq a1
  cases hl : Op.bytesLess a0.toList a1.toList with
  | true =>
    have hr : PathOrd.cmpT a0 a1 = -1 := by unfold PathOrd.cmpT; rw [← q0, ← q1, if_pos hl]
    rw [hr]
    clear hr q0 q1
    go_enter Tryd.func71, Tryd.ntmps71
    go_wp2
    go_ret
    exact ⟨rfl, by repeat (first | exact Drawn0.refl _ | apply Drawn0.step)⟩
  | false =>
    cases hm : Op.bytesLess a1.toList a0.toList with
    | true =>
      have hr : PathOrd.cmpT a0 a1 = 1 := by unfold PathOrd.cmpT; rw [← q0, ← q1, if_neg (by rw [hl]; decide), if_pos hm]
      have he : (a0.toList == a1.toList) = false := beq_eq_false_iff_ne.2 (fun e => by rw [e, PathOrd.bl_irrefl] at hm; cases hm)
      rw [hr]
      clear hr q0 q1
      go_enter Tryd.func71, Tryd.ntmps71
      go_wp2
      go_ret
      exact ⟨rfl, by repeat (first | exact Drawn0.refl _ | apply Drawn0.step)⟩
    | false =>
      have hr : PathOrd.cmpT a0 a1 = 0 := by unfold PathOrd.cmpT; rw [← q0, ← q1, if_neg (by rw [hl]; decide), if_neg (by rw [hm]; decide)]
      have he : (a0.toList == a1.toList) = true := beq_iff_eq.2 (PathOrd.bl_tri _ _ hl hm)
      rw [hr]
      clear hr q0 q1
      go_enter Tryd.func71, Tryd.ntmps71
      go_wp2
      go_ret
      exact ⟨rfl, by repeat (first | exact Drawn0.refl _ | apply Drawn0.step)⟩

/-! ### slices_Compare_string_string: function 52 -/
def slices_Compare_string_string.l0 : Nat → List ByteArray → List ByteArray → List ByteArray → Int → Int → Option (Int)
  | 0, _, _, _, _, _ => none
  | k + 1, x0, x1, x9, x10, x11 => if x11 < x10 then (if 0 ≤ x11 then (if x11 < (x9.length : Int) then (if x11 ≥ (x1.length : Int) then (some 1) else (if x11 < (x1.length : Int) then ((cmp_Compare_string.f (rdOf ByteArray.empty x9 x11) (rdOf ByteArray.empty x1 x11)).bind fun t103 => (if t103 = 0 then (slices_Compare_string_string.l0 k x0 x1 x9 x10 (wrap64 (x11 + 1))) else (some t103))) else (none))) else (none)) else (none)) else (if (x0.length : Int) < (x1.length : Int) then (some (-1)) else (some 0))
def slices_Compare_string_string.f (k : Nat) (l0 : List ByteArray) (l1 : List ByteArray) : Option (Int) := slices_Compare_string_string.l0 k l0 l1 l0 (l0.length : Int) 0
theorem slices_Compare_string_string.mono_l : ∀ k, (∀ y0 y1 y2 y3 y4, LeO (slices_Compare_string_string.l0 k y0 y1 y2 y3 y4) (slices_Compare_string_string.l0 (k + 1) y0 y1 y2 y3 y4))
  | 0 => fun _ _ _ _ _ r h => by simp [slices_Compare_string_string.l0] at h
  | k + 1 => by
    have ih0 := slices_Compare_string_string.mono_l k
    · intro y0 y1 y2 y3 y4
      unfold slices_Compare_string_string.l0
      repeat' first
      | (with_reducible exact ih0 _ _ _ _ _)
      | (with_reducible exact LeO.refl _)
      | (with_reducible exact LeO.none _)
      | (with_reducible refine LeO.ite ?_ ?_)
      | (with_reducible refine LeO.bind ?_ (fun _ => ?_))
      | exact ih0 _ _ _ _ _
      | exact LeO.none _
      | refine LeO.ite ?_ ?_
      | refine LeO.bind ?_ (fun _ => ?_)
theorem slices_Compare_string_string.mono : ∀ a0 a1 k, LeO (slices_Compare_string_string.f k a0 a1) (slices_Compare_string_string.f (k + 1) a0 a1) := by
  intro a0 a1 k
  have ih0 := slices_Compare_string_string.mono_l k
  unfold slices_Compare_string_string.f
  repeat' first
      | (with_reducible exact ih0 _ _ _ _ _)
      | (with_reducible exact LeO.refl _)
      | (with_reducible exact LeO.none _)
      | (with_reducible refine LeO.ite ?_ ?_)
      | (with_reducible refine LeO.bind ?_ (fun _ => ?_))
      | exact ih0 _ _ _ _ _
      | exact LeO.none _
      | refine LeO.ite ?_ ?_
      | refine LeO.bind ?_ (fun _ => ?_)
set_option maxHeartbeats 8000000 in
set_option maxRecDepth 100000 in
theorem slices_Compare_string_string.calls (k : Nat) (A0 : Option Addr) (c0 : Nat) (l0 : List ByteArray) (A1 : Option Addr) (c1 : Nat) (l1 : List ByteArray) (r : Int) (w : World) (hr0 : Kd.C Kd.string w A0 l0.length l0) (hc0 : l0.length ≤ c0) (hr1 : Kd.C Kd.string w A1 l1.length l1) (hc1 : l1.length ≤ c1) (h : slices_Compare_string_string.f k l0 l1 = some r) :
    Calls Tryd.prog 52 #[.slice A0 l0.length c0, .slice A1 l1.length c1] w fun e w' => e = .returned (.int .i64 r) ∧ Drawn0 w w' := by
  have HR0 := Aside0.mk hr0
  have HC0 := Aside0.mk hc0
  clear hr0 hc0
  have HR1 := Aside0.mk hr1
  have HC1 := Aside0.mk hc1
  clear hr1 hc1
  have H : (slices_Compare_string_string.l0 k l0 l1 l0 (l0.length : Int) 0) = some r := h
  clear h
  have H' := Aside0.mk H
  clear H
  go_enter Tryd.func52, Tryd.ntmps52
  go_wp2
  go_loopg [11] k (fun kq v11 w' => ∃ (x11_1 : Int), v11 = .int .i64 x11_1 ∧ Aside0 (slices_Compare_string_string.l0 kq l0 l1 l0 (l0.length : Int) x11_1 = some r) ∧ Aside0 (kq ≤ k) ∧ Drawn0 w w')
  case atStart => exact ⟨(0), (by first | rfl | (simp; done) | (simp [*]; done) | (simp; exact (by decide : ∀ p q : Bool, (p == q) = (!(p != q))) _ _) | (simp; exact (by decide : ∀ p q : Bool, (!(p != q)) = (p == q)) _ _)), H', ⟨Nat.le_refl _⟩, by repeat (first | exact Drawn0.refl _ | apply Drawn0.step)⟩
  case round =>
    clear H'
    try clear c1
    try clear p2
    obtain ⟨x11_1, rfl, HA, HK1, ⟨m1, rfl⟩⟩ := hrel
    cases gk with
    | zero => exact absurd HA.out (by simp [slices_Compare_string_string.l0])
    | succ k1 =>
      have H := HA.out
      clear HA
      simp only [slices_Compare_string_string.l0] at H
      by_cases c3 : x11_1 < (l0.length : Int)
      · rw [if_pos c3] at H
        have c3b0 : decide (x11_1 < (l0.length : Int)) = true := decide_eq_true c3
        clear c3
        by_cases c4 : 0 ≤ x11_1
        · rw [if_pos c4] at H
          have c4b0 : decide (0 ≤ x11_1) = true := decide_eq_true c4
          clear c4
          by_cases c5 : x11_1 < (l0.length : Int)
          · rw [if_pos c5] at H
            have c5b0 : decide (x11_1 < (l0.length : Int)) = true := decide_eq_true c5
            clear c5
            by_cases c6 : x11_1 ≥ (l1.length : Int)
            · rw [if_pos c6] at H
              have c6b0 : decide ((l1.length : Int) ≤ x11_1) = true := decide_eq_true c6
              clear c6
              obtain rfl := Option.some.inj H
              have p101 : 0 ≤ (x11_1 : Int) := of_decide_eq_true (by first | (with_reducible assumption) | assumption)
              have q101 : x11_1 < (l0.length : Int) := of_decide_eq_true (by first | (with_reducible assumption) | assumption)
              obtain ⟨ad101, e101, hx101_0⟩ := Kd.at_string HR0.out x11_1 p101 q101
              cases e101
              replace p101 := eq_true p101
              replace q101 := eq_true q101
              go_wp2
              go_ret
              exact ⟨by first | rfl | (simp; done) | (simp [*]; done) | (simp; exact (by decide : ∀ p q : Bool, (p == q) = (!(p != q))) _ _) | (simp; exact (by decide : ∀ p q : Bool, (!(p != q)) = (p == q)) _ _), by repeat (first | exact Drawn0.refl _ | apply Drawn0.step)⟩
            · rw [if_neg c6] at H
              have c6b0 : decide ((l1.length : Int) ≤ x11_1) = false := decide_eq_false c6
              clear c6
              by_cases c7 : x11_1 < (l1.length : Int)
              · rw [if_pos c7] at H
                have c7b0 : decide (x11_1 < (l1.length : Int)) = true := decide_eq_true c7
                clear c7
                replace H := Option.bind_eq_some_iff.mp H
                obtain ⟨t103, A80, H⟩ := H
                replace H : (if t103 = 0 then (slices_Compare_string_string.l0 k1 l0 l1 l0 (l0.length : Int) (wrap64 (x11_1 + 1))) else (some t103)) = some r := H
                have A8 := Aside0.mk A80
                clear A80
                by_cases c9 : t103 = 0
                · rw [if_pos c9] at H
                  have c9b0 : (t103 == 0) = true := beq_iff_eq.mpr c9
                  have c9b1 : (t103 != 0) = false := bne_eq_false_iff_eq.mpr c9
                  clear c9
                  have H' := Aside0.mk H
                  clear H
                  have p101 : 0 ≤ (x11_1 : Int) := of_decide_eq_true (by first | (with_reducible assumption) | assumption)
                  have q101 : x11_1 < (l0.length : Int) := of_decide_eq_true (by first | (with_reducible assumption) | assumption)
                  obtain ⟨ad101, e101, hx101_0⟩ := Kd.at_string HR0.out x11_1 p101 q101
                  cases e101
                  replace p101 := eq_true p101
                  replace q101 := eq_true q101
                  have p102 : 0 ≤ (x11_1 : Int) := of_decide_eq_true (by first | (with_reducible assumption) | assumption)
                  have q102 : x11_1 < (l1.length : Int) := of_decide_eq_true (by first | (with_reducible assumption) | assumption)
                  obtain ⟨ad102, e102, hx102_0⟩ := Kd.at_string HR1.out x11_1 p102 q102
                  cases e102
                  replace p102 := eq_true p102
                  replace q102 := eq_true q102
                  go_wp2_with (first | ((with_reducible refine gate_callee (f := 71) rfl ?_); refine goesL_ (some 26) rfl rfl Tryd.func71 (by kernel_rfl) rfl #[.string (rdOf ByteArray.empty l0 x11_1), .string (rdOf ByteArray.empty l1 x11_1)] rfl (by (try simp only [List.map_toArray, List.map_cons, List.map_nil]); first | done | rfl | (simp only [List.length_drop, List.length_take]; rfl)) ?_; (with_reducible refine (cmp_Compare_string.calls (rdOf ByteArray.empty l0 x11_1) (rdOf ByteArray.empty l1 x11_1) t103 _ A8.out).mono ?_); rintro e w' ⟨rfl, ⟨nd, rfl⟩⟩; refine ⟨_, rfl, ?_⟩))
                  go_roundg k1
                  case measure => have := HK1.out; omega
                  case rel => exact ⟨(wrap64 (x11_1 + 1)), (by first | rfl | (simp; done) | (simp [*]; done) | (simp; exact (by decide : ∀ p q : Bool, (p == q) = (!(p != q))) _ _) | (simp; exact (by decide : ∀ p q : Bool, (!(p != q)) = (p == q)) _ _)), H', ⟨by have := HK1.out; omega⟩, by repeat (first | exact Drawn0.refl _ | apply Drawn0.step)⟩
                · rw [if_neg c9] at H
                  have c9b0 : (t103 == 0) = false := beq_eq_false_iff_ne.mpr c9
                  have c9b1 : (t103 != 0) = true := bne_iff_ne.mpr c9
                  obtain rfl := Option.some.inj H
                  have p101 : 0 ≤ (x11_1 : Int) := of_decide_eq_true (by first | (with_reducible assumption) | assumption)
                  have q101 : x11_1 < (l0.length : Int) := of_decide_eq_true (by first | (with_reducible assumption) | assumption)
                  obtain ⟨ad101, e101, hx101_0⟩ := Kd.at_string HR0.out x11_1 p101 q101
                  cases e101
                  replace p101 := eq_true p101
                  replace q101 := eq_true q101
                  have p102 : 0 ≤ (x11_1 : Int) := of_decide_eq_true (by first | (with_reducible assumption) | assumption)
                  have q102 : x11_1 < (l1.length : Int) := of_decide_eq_true (by first | (with_reducible assumption) | assumption)
                  obtain ⟨ad102, e102, hx102_0⟩ := Kd.at_string HR1.out x11_1 p102 q102
                  cases e102
                  replace p102 := eq_true p102
                  replace q102 := eq_true q102
                  go_wp2_with (first | ((with_reducible refine gate_callee (f := 71) rfl ?_); refine goesL_ (some 26) rfl rfl Tryd.func71 (by kernel_rfl) rfl #[.string (rdOf ByteArray.empty l0 x11_1), .string (rdOf ByteArray.empty l1 x11_1)] rfl (by (try simp only [List.map_toArray, List.map_cons, List.map_nil]); first | done | rfl | (simp only [List.length_drop, List.length_take]; rfl)) ?_; (with_reducible refine (cmp_Compare_string.calls (rdOf ByteArray.empty l0 x11_1) (rdOf ByteArray.empty l1 x11_1) t103 _ A8.out).mono ?_); rintro e w' ⟨rfl, ⟨nd, rfl⟩⟩; refine ⟨_, rfl, ?_⟩))
                  go_ret
                  exact ⟨by first | rfl | (simp; done) | (simp [*]; done) | (simp; exact (by decide : ∀ p q : Bool, (p == q) = (!(p != q))) _ _) | (simp; exact (by decide : ∀ p q : Bool, (!(p != q)) = (p == q)) _ _), by repeat (first | exact Drawn0.refl _ | apply Drawn0.step)⟩
              · rw [if_neg c7] at H
                exact absurd H (by simp)
          · rw [if_neg c5] at H
            exact absurd H (by simp)
        · rw [if_neg c4] at H
          exact absurd H (by simp)
      · rw [if_neg c3] at H
        have c3b0 : decide (x11_1 < (l0.length : Int)) = false := decide_eq_false c3
        clear c3
        by_cases c10 : (l0.length : Int) < (l1.length : Int)
        · rw [if_pos c10] at H
          have c10b0 : decide ((l0.length : Int) < (l1.length : Int)) = true := decide_eq_true c10
          have c10b1 : decide (l0.length < l1.length) = true := decide_eq_true (Int.ofNat_lt.mp c10)
          clear c10
          obtain rfl := Option.some.inj H
          go_wp2
          go_ret
          exact ⟨by first | rfl | (simp; done) | (simp [*]; done) | (simp; exact (by decide : ∀ p q : Bool, (p == q) = (!(p != q))) _ _) | (simp; exact (by decide : ∀ p q : Bool, (!(p != q)) = (p == q)) _ _), by repeat (first | exact Drawn0.refl _ | apply Drawn0.step)⟩
        · rw [if_neg c10] at H
          have c10b0 : decide ((l0.length : Int) < (l1.length : Int)) = false := decide_eq_false c10
          have c10b1 : decide (l0.length < l1.length) = false := decide_eq_false (fun h => c10 (Int.ofNat_lt.mpr h))
          clear c10
          obtain rfl := Option.some.inj H
          go_wp2
          go_ret
          exact ⟨by first | rfl | (simp; done) | (simp [*]; done) | (simp; exact (by decide : ∀ p q : Bool, (p == q) = (!(p != q))) _ _) | (simp; exact (by decide : ∀ p q : Bool, (!(p != q)) = (p == q)) _ _), by repeat (first | exact Drawn0.refl _ | apply Drawn0.step)⟩

/-! ### strings_Split: function 69, by hand -/
def strings_Split.f (a0 a1 : ByteArray) : Option (List ByteArray) := if a0.size < 4294967281 ∧ 1 ≤ a1.size ∧ Lib.countB a0 a1 + 1 ≤ 4294967296 ∧ (Lib.splitB a1 0 (Lib.countB a0 a1) a0).length = Lib.countB a0 a1 + 1 then some (Lib.splitB a1 0 (Lib.countB a0 a1) a0) else none
theorem strings_Split.calls (a0 a1 : ByteArray) (r : List ByteArray) (w : World) (hL : Laid w) (h : strings_Split.f a0 a1 = some r) :
    Calls Tryd.prog 69 #[.string a0, .string a1] w fun e w' => ∃ v0_ : Value, e = .returned v0_ ∧ Kd.R Kd.string 9 w' w.heap.size (fun _ => True) v0_ r ∧ Below w.heap.size w w' := by
  unfold strings_Split.f at h
  by_cases hs : a0.size < 4294967281 ∧ 1 ≤ a1.size ∧ Lib.countB a0 a1 + 1 ≤ 4294967296 ∧ (Lib.splitB a1 0 (Lib.countB a0 a1) a0).length = Lib.countB a0 a1 + 1
  · rw [if_pos hs] at h
    obtain rfl := Option.some.inj h
    obtain ⟨m, hm⟩ := hL.maxlen
    obtain ⟨h1, h2, h3, h4⟩ := hs
    refine (Tryd.strings_Split a0 a1 m w h1 hm h2).mono fun e w' ⟨he, hw⟩ => ⟨_, he, ?_, ?_⟩
    · rw [hw]
      refine Kd.R_of_own (?_ : (w.alloc _).ownsRow w.heap.size 9 1 _ (Lib.splitB a1 0 (Lib.countB a0 a1) a0).length ((Lib.splitB a1 0 (Lib.countB a0 a1) a0).map Value.string)) (fun _ _ => trivial)
      exact ⟨by simp, .inr ⟨w.heap.size, Lib.countB a0 a1 + 1, ((Lib.splitB a1 0 (Lib.countB a0 a1) a0).map Value.string).toArray, by rw [h4], Nat.le_refl _, blk_new w _, by omega, by unfold maxLen; omega, by simp [h4], by rw [Nat.mul_one]; exact List.take_of_length_le (by simp)⟩⟩
    · rw [hw]; exact below_alloc (Below.refl _ w) _
  · rw [if_neg hs] at h
    cases h

/-! ### path_parts: function 53 -/
def path_parts.f (a0 : ByteArray) : Option (List ByteArray) := if a0.toList = ([] : List UInt8) then (some ([] : List ByteArray)) else ((strings_Split.f a0 (⟨#[47]⟩ : ByteArray)).bind fun t104 => (some t104))
set_option maxHeartbeats 8000000 in
set_option maxRecDepth 100000 in
theorem path_parts.calls (a0 : ByteArray) (r : List ByteArray) (w : World) (hL : Laid w) (h : path_parts.f a0 = some r) :
    Calls Tryd.prog 53 #[.string a0] w fun e w' => ∃ v0_ : Value, e = .returned (v0_) ∧ Kd.R Kd.string 9 w' w.heap.size (fun _ => True) v0_ r ∧ Below w.heap.size w w' := by
  have HLAID := Aside0.mk hL
  clear hL
  have HB := Aside0.mk (Below.refl w.heap.size w)
  have H : (if a0.toList = ([] : List UInt8) then (some ([] : List ByteArray)) else ((strings_Split.f a0 (⟨#[47]⟩ : ByteArray)).bind fun t104 => (some t104))) = some r := h
  clear h
  by_cases c2 : a0.toList = ([] : List UInt8)
  · rw [if_pos c2] at H
    have c2b0 : (a0.toList == ([] : List UInt8)) = true := beq_iff_eq.mpr c2
    have c2b1 : (a0.toList != ([] : List UInt8)) = false := bne_eq_false_iff_eq.mpr c2
    have c2b2 : a0.toList.isEmpty = true := by rw [c2]; rfl
    clear c2
    obtain rfl := Option.some.inj H
    go_enter Tryd.func53, Tryd.ntmps53
    go_wp2
    go_ret
    exact ⟨_, by first | rfl | (simp [errW_none, errW_some] <;> rfl) | (simp [*, errW_none, errW_some] <;> rfl), by first | exact Kd.R_nil _ _ _ _ _ | exact Kd.N_nil _ _ _ _ _ | exact Kd.V_nil _ _ _ _ _ | exact Kd.Q_nil _ _ _ _ _ | exact Kd.S_nil _ _ _ _ _, by repeat (first | (with_reducible first | exact HB.out | apply below_alloc | apply pw_below_drewN | apply below_drew1) | exact HB.out)⟩
  · rw [if_neg c2] at H
    have c2b0 : (a0.toList == ([] : List UInt8)) = false := beq_eq_false_iff_ne.mpr c2
    have c2b1 : (a0.toList != ([] : List UInt8)) = true := bne_iff_ne.mpr c2
    have c2b2 : a0.toList.isEmpty = false := by simpa using c2
    replace H := Option.bind_eq_some_iff.mp H
    obtain ⟨t104, A30, H⟩ := H
    replace H : (some t104) = some r := H
    have A3 := Aside0.mk A30
    clear A30
    obtain rfl := Option.some.inj H
    go_enter Tryd.func53, Tryd.ntmps53
    go_wp2_with (first | ((with_reducible refine gate_callee (f := 69) rfl ?_); refine goesL_ (some 6) rfl rfl Tryd.func69 (by kernel_rfl) rfl #[.string a0, .string (⟨#[47]⟩ : ByteArray)] rfl (by (try simp only [List.map_toArray, List.map_cons, List.map_nil]); first | done | rfl | (simp only [List.length_drop, List.length_take]; rfl)) ?_; (with_reducible refine (strings_Split.calls a0 (⟨#[47]⟩ : ByteArray) t104 _ ?side1 A3.out).mono ?_); (case side1 => first | exact HLAID.out | exact Laid.drewN HLAID.out _ | exact Laid.below HLAID.out (by repeat (first | (with_reducible first | exact HB.out | apply below_alloc | apply pw_below_drewN | apply below_drew1) | exact HB.out))); rintro e w4 ⟨v105, rfl, ho0, hb⟩; refine ⟨_, rfl, ?_⟩; have n0_ := Aside0.mk (Kd.R_lower ho0 (below_size (by repeat (first | (with_reducible first | exact HB.out | apply below_alloc | apply pw_below_drewN | apply below_drew1) | exact HB.out)))); have n1_ := Aside0.mk (below_step (by repeat (first | (with_reducible first | exact HB.out | apply below_alloc | apply pw_below_drewN | apply below_drew1) | exact HB.out)) hb); clear HB; have HO106 := n0_; have HB := n1_; clear n0_ n1_; (try clear hb); (try clear hb2); (try clear hk); (try clear hi); (try clear ho0)))
    go_ret
    exact ⟨_, by first | rfl | (simp [errW_none, errW_some] <;> rfl) | (simp [*, errW_none, errW_some] <;> rfl), by (with_reducible repeat (first | apply Kd.R_alloc | apply Kd.R_drewN | apply Kd.R_drew)); exact HO106.out, by repeat (first | (with_reducible first | exact HB.out | apply below_alloc | apply pw_below_drewN | apply below_drew1) | exact HB.out)⟩

/-! ### path_Sort: function 31, by hand -/
def path_Sort.f (l0 : List ByteArray) : Option (List ByteArray) := if l0.length ≤ 100000 ∧ ∀ x ∈ l0, x.size ≤ 2000000 then some (Go.Proofs.YtcmajhdgaeploaaDoor.PathOrd.isort l0) else none
def path_Sort.tx (l0 : List ByteArray) (k : Nat) : ByteArray := l0.getD k ⟨#[]⟩
def path_Sort.pt (l0 : List ByteArray) (k : Nat) : List ByteArray := Go.Proofs.YtcmajhdgaeploaaDoor.PathOrd.parts (path_Sort.tx l0 k)
theorem path_Sort.nil_iff (a : ByteArray) : a.toList = ([] : List UInt8) ↔ a.data.toList = [] := by
  rw [show a.toList = a.data.toList from ByteArray.toList_eq a]
open Go.Proofs.YtcmajhdgaeploaaDoor.PathOrd in
theorem path_Sort.split_told (a : ByteArray) (h : a.size ≤ 2000000) (hn : a.data.toList ≠ []) : strings_Split.f a ⟨#[47]⟩ = some (parts a) := by
  unfold strings_Split.f
  have h1 : 1 ≤ (⟨#[47]⟩ : ByteArray).size := by decide
  have h2 := Lib.countB_le ⟨#[47]⟩ h1 a.size a (Nat.le_refl _)
  rw [if_pos ⟨by omega, h1, by omega, Lib.splitB_all _ h1 0 _ a rfl⟩, splitB_parts a hn]
open Go.Proofs.YtcmajhdgaeploaaDoor.PathOrd in
theorem path_Sort.parts_told (a : ByteArray) (h : a.size ≤ 2000000) : path_parts.f a = some (parts a) := by
  unfold path_parts.f
  by_cases hn : a.data.toList = []
  · rw [if_pos ((path_Sort.nil_iff a).2 hn)]
    unfold parts
    rw [if_pos hn]
  · rw [if_neg (fun e => hn ((path_Sort.nil_iff a).1 e)), path_Sort.split_told a h hn]
    rfl
open Go.Proofs.YtcmajhdgaeploaaDoor.PathOrd in
theorem path_Sort.spl_len : ∀ l : List UInt8, (spl l).length ≤ l.length + 1
  | [] => by simp [spl]
  | c :: l => by
    have := path_Sort.spl_len l
    simp only [spl]
    split
    · simp only [List.length_cons]; omega
    · split
      · simp
      · rename_i e; rw [e] at this; simp only [List.length_cons] at this ⊢; omega
open Go.Proofs.YtcmajhdgaeploaaDoor.PathOrd in
theorem path_Sort.parts_len (a : ByteArray) : (parts a).length ≤ a.size + 1 := by
  unfold parts
  split
  · simp
  · rw [List.length_map]; exact path_Sort.spl_len _
open Go.Proofs.YtcmajhdgaeploaaDoor.PathOrd in
theorem path_Sort.compare_l (X Y : List ByteArray) (hX : X.length ≤ 4294967296) : ∀ (k : Nat) (i : Nat), i ≤ X.length → i ≤ Y.length → X.length - i < k → slices_Compare_string_string.l0 k X Y X (X.length : Int) (i : Int) = some (cmpL (X.drop i) (Y.drop i))
  | 0, _, _, _, h => by omega
  | k + 1, i, hi, hj, h => by
    unfold slices_Compare_string_string.l0
    by_cases hx : i < X.length
    · rw [if_pos (by omega), if_pos (by omega), if_pos (by omega)]
      rw [List.drop_eq_getElem_cons hx]
      by_cases hy : i < Y.length
      · rw [if_neg (by omega), if_pos (by omega)]
        rw [List.drop_eq_getElem_cons hy]
        have ex : rdOf ByteArray.empty X (i : Int) = X[i] := by simp [rdOf, List.getD_eq_getElem?_getD, hx]
        have ey : rdOf ByteArray.empty Y (i : Int) = Y[i] := by simp [rdOf, List.getD_eq_getElem?_getD, hy]
        rw [ex, ey]
        unfold cmp_Compare_string.f
        simp only [Option.bind_some, cmpL]
        by_cases e : cmpT X[i] Y[i] = 0
        · rw [if_pos e, if_pos e]
          rw [show wrap64 ((i : Int) + 1) = ((i + 1 : Nat) : Int) by unfold wrap64; omega]
          exact path_Sort.compare_l X Y hX k (i + 1) (by omega) (by omega) (by omega)
        · rw [if_neg e, if_neg e]
      · rw [if_pos (by omega)]
        have : Y.drop i = [] := List.drop_eq_nil_of_le (by omega)
        rw [this]
        rfl
    · rw [if_neg (by omega)]
      have : X.drop i = [] := List.drop_eq_nil_of_le (by omega)
      rw [this]
      by_cases hy : i < Y.length
      · rw [if_pos (by omega), List.drop_eq_getElem_cons hy]
        rfl
      · rw [if_neg (by omega), List.drop_eq_nil_of_le (by omega)]
        rfl
open Go.Proofs.YtcmajhdgaeploaaDoor.PathOrd in
theorem path_Sort.compare_told (k : Nat) (X Y : List ByteArray) (hX : X.length ≤ 4294967296) (hk : X.length < k) : slices_Compare_string_string.f k X Y = some (cmpL X Y) := by
  have h := path_Sort.compare_l X Y hX k 0 (Nat.zero_le _) (Nat.zero_le _) (by omega)
  simpa [slices_Compare_string_string.f] using h
theorem path_Sort.info45 : (Tryd.prog.info? 45).map (fun i => (i.zero, i.size, i.bytes)) = some (some (.slice none 0 0), 1, 24) := by kernel_rfl
theorem path_Sort.infoS : (Tryd.prog.info? 9).map (fun i => (i.zero, i.size, i.bytes)) = some (some (.string ⟨#[]⟩), 1, 16) := by kernel_rfl
theorem path_Sort.infoI : (Tryd.prog.info? 3).map (fun i => (i.zero, i.size, i.bytes)) = some (some (.int .i64 0), 1, 8) := by kernel_rfl
/-- Where the sort stands: i places, m names; the box holds bv, the names' row is nv's. -/
structure path_Sort.St (l0 : List ByteArray) (B gl : Nat) (W : World) (i m : Nat) (v4 bv nv : Value) (vs : List Value) : Prop where
  pl : W.ownsRow B 3 1 v4 i (nums .i64 (Go.Proofs.YtcmajhdgaeploaaDoor.PathOrd.iota i))
  box : W.heap[gl]? = some (.cells #[bv] 72 (0, 0))
  nm : W.ownsRow B 45 1 nv m vs
  pr : ∀ k, k < m → ∃ A c, vs[k]? = some (.slice A (path_Sort.pt l0 k).length c) ∧ W.ownsRow B 9 1 (.slice A (path_Sort.pt l0 k).length c) (path_Sort.pt l0 k).length (encs Value.string (path_Sort.pt l0 k))
section
variable {l0 : List ByteArray} {B gl i m : Nat} {W W' : World} {v4 bv nv : Value} {vs : List Value}
theorem path_Sort.St.below (h : path_Sort.St l0 B gl W i m v4 bv nv vs) (hb : Below W.heap.size W W') : path_Sort.St l0 B gl W' i m v4 bv nv vs :=
  ⟨Rows2.row_below h.pl hb, (hb.block gl (blk_lt h.box)).trans h.box, Rows2.row_below h.nm hb, fun k hk => by obtain ⟨A, c, e, ho⟩ := h.pr k hk; exact ⟨A, c, e, Rows2.row_below ho hb⟩⟩
theorem path_Sort.St.drew (h : path_Sort.St l0 B gl W i m v4 bv nv vs) : path_Sort.St l0 B gl W.drew i m v4 bv nv vs := ⟨h.pl, h.box, h.nm, h.pr⟩
theorem path_Sort.St.drewN (h : path_Sort.St l0 B gl W i m v4 bv nv vs) (q : Nat) : path_Sort.St l0 B gl (W.drewN q) i m v4 bv nv vs := ⟨h.pl, h.box, h.nm, h.pr⟩
theorem path_Sort.St.cell (h : path_Sort.St l0 B gl W i m v4 bv nv vs) : W.cell? ⟨gl, 0, none⟩ = some bv ∧ W.frozen? ⟨gl, 0, none⟩ = false := ⟨(blk_cell h.box 0).trans rfl, blk_frozen h.box 0⟩
theorem path_Sort.St.append {A1 : Option Addr} {c1 : Nat} {nv' : Value} (h : path_Sort.St l0 B gl W i m v4 bv nv vs) (hr : W.ownsRow B 9 1 (.slice A1 (path_Sort.pt l0 m).length c1) (path_Sort.pt l0 m).length (encs Value.string (path_Sort.pt l0 m)))
    (hg : W.grownBy W' nv.ownBlock) (hown : W'.ownsRow B 45 1 nv' (m + 1) (vs ++ [.slice A1 (path_Sort.pt l0 m).length c1])) : path_Sort.St l0 B gl W' i (m + 1) v4 bv nv' (vs ++ [.slice A1 (path_Sort.pt l0 m).length c1]) := by
  have hl : vs.length = m := by have := h.nm.1; omega
  refine ⟨Rows2.row_grown h.pl hg (fun k hk => Rows2.typed_ne h.pl h.nm (by decide) k hk), (hg.block gl (blk_lt h.box) (fun e => Rows2.typed_ne' h.nm h.box (by decide) gl e.symm rfl)).trans h.box, hown, fun k hk => ?_⟩
  rcases Nat.lt_or_ge k m with hk2 | hk2
  · obtain ⟨A, c, e, ho⟩ := h.pr k hk2
    exact ⟨A, c, by rw [List.getElem?_append_left (by omega)]; exact e, Rows2.row_grown ho hg (fun q hq => Rows2.typed_ne ho h.nm (by decide) q hq)⟩
  · obtain rfl : k = m := by omega
    exact ⟨A1, c1, by rw [List.getElem?_append_right (by omega), hl, Nat.sub_self]; rfl, Rows2.row_grown hr hg (fun q hq => Rows2.typed_ne hr h.nm (by decide) q hq)⟩
theorem path_Sort.St.stored (h : path_Sort.St l0 B gl W i m v4 bv nv vs) (u : Value) : path_Sort.St l0 B gl (W.setCell ⟨gl, 0, none⟩ u) i m v4 u nv vs :=
  ⟨Rows2.row_set h.pl 0 (fun k hk => Rows2.typed_ne' h.pl h.box (by decide) k hk), blk_put h.box 0 u rfl, Rows2.row_set h.nm 0 (fun k hk => Rows2.typed_ne' h.nm h.box (by decide) k hk), fun k hk => by obtain ⟨A, c, e, ho⟩ := h.pr k hk; exact ⟨A, c, e, Rows2.row_set ho 0 (fun q hq => Rows2.typed_ne' ho h.box (by decide) q hq)⟩⟩
theorem path_Sort.St.place {v5 : Value} (h : path_Sort.St l0 B gl W i m v4 bv nv vs) (hg : W.grownBy W' v4.ownBlock) (hown : W'.ownsRow B 3 1 v5 (i + 1) (nums .i64 (Go.Proofs.YtcmajhdgaeploaaDoor.PathOrd.iota (i + 1)))) : path_Sort.St l0 B gl W' (i + 1) m v5 bv nv vs :=
  ⟨hown, (hg.block gl (blk_lt h.box) (fun e => Rows2.typed_ne' h.pl h.box (by decide) gl e.symm rfl)).trans h.box, Rows2.row_grown h.nm hg (fun k hk => Rows2.typed_ne h.nm h.pl (by decide) k hk), fun k hk => by obtain ⟨A, c, e, ho⟩ := h.pr k hk; exact ⟨A, c, e, Rows2.row_grown ho hg (fun q hq => Rows2.typed_ne ho h.pl (by decide) q hq)⟩⟩
end
theorem path_Sort.order_calls (W : World) (gl gn cn n kk x y : Nat) (hx : x < n) (hy : y < n) (Ax Ay : Option Addr) (cx cy : Nat) (px py : List ByteArray) (r : Int)
    (hb : W.cell? ⟨gl, 0, none⟩ = some (.slice (some ⟨gn, 0, none⟩) n cn)) (hcx : W.cell? ⟨gn, x, none⟩ = some (.slice Ax px.length cx)) (hcy : W.cell? ⟨gn, y, none⟩ = some (.slice Ay py.length cy))
    (hlx : px.length ≤ cx) (hly : py.length ≤ cy) (hCx : Kd.C Kd.string W Ax px.length px) (hCy : Kd.C Kd.string W Ay py.length py) (h : slices_Compare_string_string.f kk px py = some r) :
    Calls Tryd.prog 58 #[.pointer (some ⟨gl, 0, none⟩), .int .i64 (x : Int), .int .i64 (y : Int)] W fun e w' => e = .returned (.int .i64 r) ∧ ∃ m, w' = W.drewN m := by
  have X0 : (0 : Int) ≤ (x : Int) := by omega
  have X1 : (x : Int) < (n : Int) := by omega
  have Y0 : (0 : Int) ≤ (y : Int) := by omega
  have Y1 : (y : Int) < (n : Int) := by omega
  have LX := Aside0.mk hlx
  have LY := Aside0.mk hly
  have CX := Aside0.mk hCx
  have CY := Aside0.mk hCy
  have HH := Aside0.mk h
  clear hlx hly hCx hCy h
  go_enter Tryd.func58, Tryd.ntmps58
  go_wp2_with fail
  go_quiet ((go_at_call 52; exact Calls.quiet_of ((slices_Compare_string_string.calls kk Ax cx px Ay cy py r _ (Kd.C_drewN CX.out _) LX.out (Kd.C_drewN CY.out _) LY.out HH.out).mono fun e w' h_ => ⟨h_.1, h_.2.out⟩)))
  go_wp2
  go_ret
  exact ⟨rfl, _, rfl⟩
theorem path_Sort.as_C {w : World} {A : Option Addr} {n : Nat} {P : List ByteArray} (h : ReadsOf Value.string (⟨#[]⟩ : ByteArray) w A n P) : Kd.C Kd.string w A n P := Kd.C_of_reads (enc := Value.string) (d := (⟨#[]⟩ : ByteArray)) (h1 := fun _ => rfl) h
theorem path_Sort.own_cap {W : World} {B n : Nat} {e : TypeId} {v : Value} {xs : List Value} (h : W.ownsRow B e 1 v n xs) (h0 : 0 < n) : ∃ g cap, v = .slice (some ⟨g, 0, none⟩) n cap ∧ B ≤ g ∧ n ≤ cap := by
  rcases h.2 with ⟨_, h1⟩ | ⟨g, cap, cur, hv, hb, _, hn, _⟩
  · omega
  · exact ⟨g, cap, hv, hb, hn⟩
open Go.Proofs.YtcmajhdgaeploaaDoor.PathOrd in
/-- What the sort asks of the comparing method. -/
theorem path_Sort.asks {l0 : List ByteArray} {B gl gp cap gn cn n : Nat} {W0 : World} {vs : List Value} (hz : ∀ k, (path_Sort.tx l0 k).size ≤ 2000000) (h : path_Sort.St l0 B gl W0 n n (.slice (some ⟨gp, 0, none⟩) n cap) (.slice (some ⟨gn, 0, none⟩) n cn) (.slice (some ⟨gn, 0, none⟩) n cn) vs) :
    Go.Proofs.YtcmajhdgaeploaaDoor.Stab.Asks gp ⟨gl, 0, none⟩ B W0 (ordN l0) (fun x => 0 ≤ x ∧ x < (n : Int)) := by
  intro W hk x y hx hy
  have hgl : gl ≠ gp := fun e => Rows2.typed_ne' h.pl h.box (by decide) gp rfl e.symm
  have hbox : W.heap[gl]? = some (.cells #[.slice (some ⟨gn, 0, none⟩) n cn] 72 (0, 0)) := (hk.1.2 gl (blk_lt h.box) hgl (by simp)).trans h.box
  have hnm := Rows2.row_keep h.nm hk.1 (fun k e => ⟨fun e2 => Rows2.typed_ne h.nm h.pl (by decide) k e (by rw [e2]; rfl), by simp⟩)
  have hpr : ∀ k, k < n → ∃ A c, W.cell? ⟨gn, k, none⟩ = some (.slice A (path_Sort.pt l0 k).length c) ∧ (path_Sort.pt l0 k).length ≤ c ∧ Kd.C Kd.string W A (path_Sort.pt l0 k).length (path_Sort.pt l0 k) := fun k hk3 => by
    obtain ⟨A, c, e, ho⟩ := h.pr k hk3
    have ho2 := Rows2.row_keep ho hk.1 (fun q e => ⟨fun e2 => Rows2.typed_ne ho h.pl (by decide) q e (by rw [e2]; rfl), by simp⟩)
    have hcell := World.ownsRow.cells hnm (g := gn) rfl k _ e
    rw [add_plain] at hcell
    have hlen : (path_Sort.pt l0 k).length ≤ c := by
      rcases ho.2 with ⟨e1, e2⟩ | ⟨g, cp, cur, e1, _, _, e2, _⟩
      · rw [e2]; exact Nat.zero_le _
      · injection e1 with _ _ e3
        omega
    exact ⟨A, c, hcell, hlen, path_Sort.as_C (own_reads_of' (d := (⟨#[]⟩ : ByteArray)) ho2)⟩
  have hb := (blk_cell hbox 0).trans (show (#[Value.slice (some ⟨gn, 0, none⟩) n cn] : Array Value)[0]? = some _ from rfl)
  obtain ⟨a, rfl⟩ : ∃ a : Nat, x = (a : Int) := ⟨x.toNat, by omega⟩
  obtain ⟨b, rfl⟩ : ∃ b : Nat, y = (b : Int) := ⟨y.toNat, by omega⟩
  have ha : a < n := by omega
  have hb2 : b < n := by omega
  obtain ⟨Ax, cx, ex, lx, Cx⟩ := hpr a ha
  obtain ⟨Ay, cy, ey, ly, Cy⟩ := hpr b hb2
  have hl := path_Sort.parts_len (path_Sort.tx l0 a)
  have hza := hz a
  obtain ⟨kk, hkk⟩ : ∃ kk, (path_Sort.pt l0 a).length < kk := ⟨_, Nat.lt_succ_self _⟩
  exact path_Sort.order_calls W gl gn cn n kk a b ha hb2 Ax Ay cx cy _ _ _ hb ex ey lx ly Cx Cy (path_Sort.compare_told kk _ _ (by unfold path_Sort.pt; omega) hkk)
theorem path_Sort.ins_nil (L : Addr) (w : World) : Calls Tryd.prog 85 #[.slice none 0 0, .int .i64 0, .int .i64 0, Go.Proofs.YtcmajhdgaeploaaDoor.Stab.Ord L] w fun e w' => e = .returned (.tuple #[]) ∧ w' = w := by
  go_enter Tryd.func85, Tryd.ntmps85
  go_wp2
  go_loopw [8] (fun v8 W => v8 = .int .i64 1 ∧ W = w) (fun _ _ => 0)
  case atStart => exact ⟨rfl, rfl⟩
  case round =>
    obtain ⟨rfl, rfl⟩ := hrel
    go_wp2
    go_end0
    exact ⟨rfl, rfl⟩
theorem path_Sort.stab_nil (L : Addr) (w : World) : Calls Tryd.prog 72 #[.slice none 0 0, .int .i64 0, Go.Proofs.YtcmajhdgaeploaaDoor.Stab.Ord L] w fun e w' => e = .returned (.tuple #[]) ∧ w' = w := by
  go_enter Tryd.func72, Tryd.ntmps72
  go_wp2
  go_loopw [7, 8] (fun v7 v8 W => v7 = .int .i64 0 ∧ v8 = .int .i64 20 ∧ W = w) (fun _ _ _ => 0)
  case atStart => exact ⟨rfl, rfl, rfl⟩
  case round =>
    obtain ⟨rfl, rfl, rfl⟩ := hrel
    go_wp2_with (go_at_call 85; (with_reducible refine (path_Sort.ins_nil L _).mono ?_); rintro ee w2 ⟨rfl, rfl⟩)
    go_loopw [6] (fun v6 W => v6 = .int .i64 20 ∧ W = w2) (fun _ _ => 0)
    case atStart => exact ⟨rfl, rfl⟩
    case round =>
      obtain ⟨rfl, rfl⟩ := hrel
      go_wp2
      go_end0
      exact ⟨rfl, rfl⟩
theorem path_Sort.sort_nil (L : Addr) (w : World) : Calls Tryd.prog 57 #[.slice none 0 0, Go.Proofs.YtcmajhdgaeploaaDoor.Stab.Ord L] w fun e w' => e = .returned (.tuple #[]) ∧ w' = w := by
  go_enter Tryd.func57, Tryd.ntmps57
  go_wp2_with (go_at_call 72; (with_reducible refine (path_Sort.stab_nil L _).mono ?_); rintro ee w2 ⟨rfl, rfl⟩)
  go_end0
  exact ⟨rfl, rfl⟩
/-- What the first j places tell. -/
def path_Sort.out (l0 : List ByteArray) (ys : List Int) (j : Nat) : List ByteArray := (ys.take j).map (fun x => l0.getD x.toNat ⟨#[]⟩)
theorem path_Sort.out_length (l0 : List ByteArray) (ys : List Int) (j : Nat) (hj : j ≤ ys.length) : (path_Sort.out l0 ys j).length = j := by simp [path_Sort.out, hj]
theorem path_Sort.out_all (l0 : List ByteArray) (ys : List Int) (j : Nat) (hj : ys.length = j) : path_Sort.out l0 ys j = ys.map (fun x => l0.getD x.toNat ⟨#[]⟩) := by simp [path_Sort.out, ← hj]
theorem path_Sort.out_succ (l0 : List ByteArray) (ys : List Int) (j q : Nat) (hj : j < ys.length) (hq : Go.Proofs.YtcmajhdgaeploaaDoor.Stab.g ys j = (q : Int)) : path_Sort.out l0 ys (j + 1) = path_Sort.out l0 ys j ++ [path_Sort.tx l0 q] := by
  have e : ys[j] = (q : Int) := by rw [← Go.Proofs.YtcmajhdgaeploaaDoor.Stab.g_get hj]; exact hq
  simp only [path_Sort.out, path_Sort.tx, List.take_add_one, List.map_append, List.getElem?_eq_getElem hj, Option.toList_some, List.map_cons, List.map_nil, e, Int.toNat_natCast]
set_option maxHeartbeats 2000000 in
set_option maxRecDepth 100000 in
theorem path_Sort.some_calls (ad : Addr) (n c0 : Nat) (l0 : List ByteArray) (w : World) (hn : n = l0.length) (hn0 : 0 < n) (hn1 : n ≤ 100000) (hz : ∀ k, (path_Sort.tx l0 k).size ≤ 2000000) (hcell : ∀ k, k < n → w.cell? (ad.add k) = some (.string (path_Sort.tx l0 k))) (hc3 : n ≤ c0) (hL : Laid w) :
    Calls Tryd.prog 31 #[.slice (some ad) n c0] w fun e w' => ∃ v0_ : Value, e = .returned v0_ ∧ Kd.R Kd.string 9 w' w.heap.size (fun _ => True) v0_ (Go.Proofs.YtcmajhdgaeploaaDoor.PathOrd.isort l0) ∧ Below w.heap.size w w' := by
    have HT : Aside0 (∀ W, Below w.heap.size w W → ∀ k, k < n → W.cell? (ad.add k) = some (.string (path_Sort.tx l0 k))) := ⟨fun W hb k hk => (hb.cell (World.block_lt_of_cell? w _ (hcell k hk))).trans (hcell k hk)⟩
    have HLAID := Aside0.mk hL
    have HN := Aside0.mk hn
    have HZ := Aside0.mk hz
    have HN0 := Aside0.mk hn0
    have HN1 := Aside0.mk hn1
    have HC3 := Aside0.mk hc3
    have HB := Aside0.mk (Below.refl w.heap.size w)
    clear hcell hL hn hz hn0 hn1 hc3
    go_enter Tryd.func31, Tryd.ntmps31
    go_wp2_with ((with_reducible refine gate_dst (N := 11) rfl ?_); refine box_event ?hg (N := 11) ?hd (cs := #[.slice none 0 0]) (t := 72) ?hr ?_; (case hd => rfl); (case hg => rfl); (case hr => first | (go_simp; done) | (go_simp; rfl)); intro gl hg wb hbox hb; have n0_ := Aside0.mk (below_step HB.out hb); have n1_ : Aside0 (path_Sort.St l0 w.heap.size gl wb 0 0 (.slice none 0 0) (.slice none 0 0) (.slice none 0 0) []) := ⟨⟨own_nil _ _ _ _, hbox, own_nil _ _ _ _, fun k hk => absurd hk (Nat.not_lt_zero k)⟩⟩; have n3_ := Aside0.mk ((by rw [hg]; exact (below_size HB.out) : w.heap.size ≤ gl)); clear HB; have HB := n0_; have HS := n1_; have GE := n3_; clear n0_ n1_ n3_; clear hb hbox hg)
    go_loopw [4, 14] (fun v4 v14 W => ∃ (i : Nat) (nv : Value) (vs : List Value), Aside0 (i ≤ n) ∧ v14 = .int .i64 (i : Int) ∧ Aside0 (path_Sort.St l0 w.heap.size gl W i i v4 nv nv vs) ∧ Aside0 (Below w.heap.size w W)) (fun _ v14 _ => n - (intOf v14).toNat)
    case atStart => exact ⟨0, _, _, ⟨Nat.zero_le _⟩, rfl, HS, HB⟩
    case round =>
      clear HS HB
      obtain ⟨i, nv, vs, HII, rfl, HS, HB⟩ := hrel
      by_cases hlt : i < n
      · have d1 : decide ((i : Int) < (n : Int)) = true := decide_eq_true (by omega)
        have d1b : decide (i < n) = true := decide_eq_true hlt
        have p0 : (0 : Int) ≤ (i : Int) := by omega
        have p1 : (i : Int) < (n : Int) := by omega
        have hx := HT.out wr HB.out i hlt
        have HI5 := Aside0.mk (show i + 1 ≤ 100000 by have := HN1.out; omega)
        have EW : Aside0 (wrap64 ((i : Int) + 1) = ((i + 1 : Nat) : Int)) := ⟨by unfold wrap64; have := HN1.out; omega⟩
        have hpt : path_parts.f (path_Sort.tx l0 i) = some (path_Sort.pt l0 i) := path_Sort.parts_told _ (HZ.out i)
        have HPT := Aside0.mk hpt
        obtain ⟨hc, hf⟩ := HS.out.cell
        have HI := Aside0.mk (show i + 1 ≤ n by omega)
        generalize path_Sort.tx l0 i = y at *
        obtain ⟨i0, hi0, hzz⟩ := Option.map_eq_some_iff.1 path_Sort.info45
        simp only [Prod.mk.injEq] at hzz
        obtain ⟨hz0, hz1, hz2⟩ := hzz
        clear hpt hlt
        go_upto_region 6 with fail
        go_region_law (first
          | (go_simp; go_at_call 53; (with_reducible refine (path_parts.calls y (path_Sort.pt l0 i) _ (HLAID.out.below (by repeat (first | (with_reducible exact HB.out) | (with_reducible apply below_drew1)))) HPT.out).mono ?_); rintro e w2 ⟨v0, rfl, hR, hb⟩; have HS2 : Aside0 (path_Sort.St l0 w.heap.size gl w2 i i u4 nv nv vs) := ⟨path_Sort.St.below (by repeat (first | (with_reducible exact HS.out) | (with_reducible refine path_Sort.St.drew ?_))) hb⟩; obtain ⟨hc2, hf2⟩ := HS2.out.cell; obtain ⟨A1, c1, rfl⟩ := Kd.R_slice hR; have HR2 := Aside0.mk (Rows2.row_lower (Kd.own_of_R hR) HB.out.size); have HB2 := Aside0.mk (below_step (show Below w.heap.size w _ from by repeat (first | (with_reducible exact HB.out) | (with_reducible apply below_drew1))) hb); have hc2a := (path_Sort.St.below HS2.out (below_alloc (Below.refl _ _) (.cells #[.slice A1 (path_Sort.pt l0 i).length c1] 45))).cell.1; clear hR hb)
          | (refine step_append_lies _ (by rfl) (.tmp 23) (.tmp 26) 70 (by rfl) w.heap.size 45 i0 (.slice none 0 0) 1 24 Tryd.underlying70 hi0 hz0 hz1 hz2 rfl (by decide) nv i vs (by rfl) (path_Sort.St.below HS2.out (below_alloc (Below.refl _ _) _)).nm ⟨w2.heap.size, 0, none⟩ 1 1 [.slice A1 (path_Sort.pt l0 i).length c1] (by rfl) rfl (World.news_of_block (cs := #[.slice A1 (path_Sort.pt l0 i).length c1]) (t := 45) (fr := (0, 0)) (heap_alloc_new w2 _)) (by simp [Value.oneCell']) (by decide) (by unfold maxLen; have := HI5.out; omega) (by have := HI5.out; omega) (Nat.le_trans HB2.out.size (by simp)) _ rfl ?_; intro g3 cap3 w3 hown3 hgr3 hat3 hlt3; have HS3 := Aside0.mk (path_Sort.St.append (path_Sort.St.below HS2.out (below_alloc (Below.refl _ _) _)) (Rows2.row_below HR2.out (below_alloc (Below.refl _ _) _)) hgr3 hown3); obtain ⟨hc4, hf4⟩ := HS3.out.cell; have HB3 : Aside0 (Below w.heap.size w w3) := ⟨(below_alloc HB2.out _).grown hgr3 (Nat.le_trans HB2.out.size (by simp)) (fun k hk => own_base HS2.out.nm k hk)⟩; clear hown3 hgr3 hat3 hlt3))
        all_goals have HS4 := Aside0.mk (path_Sort.St.stored HS3.out (Value.slice (some ⟨g3, 0, none⟩) (i + 1) cap3))
        all_goals have HB4 := Aside0.mk (Below.setCell HB3.out (p := ⟨gl, 0, none⟩) GE.out (Value.slice (some ⟨g3, 0, none⟩) (i + 1) cap3))
        all_goals clear HS3 HB3 hc4 hf4 HS2 hc2 hf2 hc2a hc hf
        all_goals generalize w3.setCell ⟨gl, 0, none⟩ (Value.slice (some ⟨g3, 0, none⟩) (i + 1) cap3) = W4 at *
        all_goals go_wp2_with ((with_reducible refine gate_dst (N := 33) rfl ?_); refine print_append_num (w0 := w) w.heap.size rfl _ _ 73 3 .i64 8 rfl Tryd.underlying73 path_Sort.infoI (by decide) u4 (Go.Proofs.YtcmajhdgaeploaaDoor.PathOrd.iota i) (i : Int) rfl rfl (by rw [Go.Proofs.YtcmajhdgaeploaaDoor.PathOrd.iota_length]; exact HS4.out.pl) HB4.out HB4.out.size (by rw [Go.Proofs.YtcmajhdgaeploaaDoor.PathOrd.iota_length]; have := HI5.out; omega) ?_; intro v5 w5 hown hb5 hgr hat; rw [← Go.Proofs.YtcmajhdgaeploaaDoor.PathOrd.iota_succ, Go.Proofs.YtcmajhdgaeploaaDoor.PathOrd.iota_length] at hown; have HS5 := Aside0.mk (path_Sort.St.place HS4.out hgr hown); have HB5 := Aside0.mk hb5; clear hown hb5 hgr hat)
        all_goals rw [EW.out]
        all_goals exact ⟨⟨i + 1, _, _, HI, rfl, HS5, HB5⟩, by have := HI.out; simp only [intOf, Int.toNat_natCast]; omega⟩
      · obtain rfl : i = n := by have := HII.out; omega
        have d1 : decide ((i : Int) < (i : Int)) = false := decide_eq_false (by omega)
        have d1b : decide (i < i) = false := decide_eq_false (by omega)
        obtain ⟨gp, cap, rfl, hgp, hcap⟩ := path_Sort.own_cap HS.out.pl HN0.out
        obtain ⟨gn, cn, rfl, hgn, hcn⟩ := path_Sort.own_cap HS.out.nm HN0.out
        have SC := Aside0.mk (Go.Proofs.YtcmajhdgaeploaaDoor.Stab.sort_calls (Go.Proofs.YtcmajhdgaeploaaDoor.PathOrd.ordN_nice l0) w.heap.size gp i cap ⟨gl, 0, none⟩ wr (Go.Proofs.YtcmajhdgaeploaaDoor.PathOrd.iota i) (by have := HN1.out; omega) HS.out.pl (path_Sort.asks HZ.out HS.out) (fun x hx => Go.Proofs.YtcmajhdgaeploaaDoor.PathOrd.iota_mem hx))
        clear hlt hgn hcn hgp hcap HS
        go_wp2_with (first | (go_at_call 57; (with_reducible refine SC.out.mono ?_); rintro e w6 ⟨rfl, ys, hys, hrow, hk⟩; have HYS := Aside0.mk hys; have HR6 := Aside0.mk hrow; have HB6 := Aside0.mk (HB.out.trans hk.2); clear hys hrow hk SC HB))
        have HYL : Aside0 (ys.length = i) := ⟨HR6.out.len⟩
        have HOK : Aside0 (∀ j, j < i → 0 ≤ Go.Proofs.YtcmajhdgaeploaaDoor.Stab.g ys j ∧ Go.Proofs.YtcmajhdgaeploaaDoor.Stab.g ys j < (i : Int)) := ⟨fun j hj => Go.Proofs.YtcmajhdgaeploaaDoor.Stab.AllOk.at_ (ok := fun x => 0 ≤ x ∧ x < (i : Int)) (Go.Proofs.YtcmajhdgaeploaaDoor.Stab.AllOk.perm (fun x hx => Go.Proofs.YtcmajhdgaeploaaDoor.PathOrd.iota_mem hx) HYS.out.sh.perm) (by rw [HYL.out]; exact hj)⟩
        have HRES : Aside0 (path_Sort.out l0 ys i = Go.Proofs.YtcmajhdgaeploaaDoor.PathOrd.isort l0) := ⟨by
          have h1 := HYS.out.sh.perm
          have h2 := HYS.out.srt
          have h3 := HYL.out
          have hn := HN.out
          rw [path_Sort.out_all l0 ys i h3]
          rw [hn] at h1 h2
          exact Go.Proofs.YtcmajhdgaeploaaDoor.PathOrd.sorted_texts h1 h2⟩
        clear HYS HII
        have HRL : Aside0 ((Go.Proofs.YtcmajhdgaeploaaDoor.PathOrd.isort l0).length = i) := ⟨by rw [← HRES.out]; exact path_Sort.out_length l0 ys i (by rw [HYL.out]; omega)⟩
        have HO6 : Aside0 (w6.ownsRow w.heap.size 9 1 (.slice none 0 0) 0 (encs Value.string (path_Sort.out l0 ys 0))) := ⟨own_nil _ _ _ _⟩
        go_loopw [7, 41] (fun v7 v41 W => ∃ j : Nat, Aside0 (j ≤ i) ∧ v41 = .int .i64 (j : Int) ∧ Aside0 (W.ownsRow w.heap.size 9 1 v7 j (encs Value.string (path_Sort.out l0 ys j))) ∧ Aside0 (Go.Proofs.YtcmajhdgaeploaaDoor.Stab.Row w.heap.size gp i cap W ys) ∧ Aside0 (Below w.heap.size w W)) (fun _ v41 _ => i - (intOf v41).toNat)
        case atStart => exact ⟨0, ⟨Nat.zero_le _⟩, rfl, HO6, HR6, HB6⟩
        case round =>
          clear HO6 HR6 HB6
          obtain ⟨j, HJ, rfl, HO, HR, HB⟩ := hrel
          by_cases hlt : j < i
          · have d2 : decide ((j : Int) < (i : Int)) = true := decide_eq_true (by omega)
            have d2b : decide (j < i) = true := decide_eq_true hlt
            have y0 : (0 : Int) ≤ (j : Int) := by omega
            have y1 : (j : Int) < (i : Int) := by omega
            obtain ⟨q, hq⟩ : ∃ q : Nat, Go.Proofs.YtcmajhdgaeploaaDoor.Stab.g ys j = (q : Int) := ⟨(Go.Proofs.YtcmajhdgaeploaaDoor.Stab.g ys j).toNat, by have := (HOK.out j hlt).1; omega⟩
            have hqi := (HOK.out j hlt).2
            have bq : wr.cell? ⟨gp, j, none⟩ = some (.int .i64 (q : Int)) := by rw [← hq]; exact (HR.out.cell j hlt).1
            have hx := HT.out wr HB.out q (by omega)
            have z0 : (0 : Int) ≤ (q : Int) := by omega
            have z1 : (q : Int) < (i : Int) := by omega
            have HQ := Aside0.mk (path_Sort.out_succ l0 ys j q (by rw [HYL.out]; exact hlt) hq)
            have HJ5 := Aside0.mk (show j + 1 ≤ 100000 by have := HN1.out; omega)
            have HJ6 := Aside0.mk hlt
            have EW : Aside0 (wrap64 ((j : Int) + 1) = ((j + 1 : Nat) : Int)) := ⟨by unfold wrap64; have := HJ5.out; omega⟩
            have HLN := Aside0.mk (path_Sort.out_length l0 ys j (by rw [HYL.out]; omega))
            clear hq hqi hlt
            go_wp2_with ((with_reducible refine gate_dst (N := 51) rfl ?_); refine print_append_of Value.string (w0 := w) w.heap.size rfl _ _ 45 9 (.string ⟨#[]⟩) 16 rfl Tryd.underlying45 path_Sort.infoS rfl (by decide) u7 (path_Sort.out l0 ys j) (path_Sort.tx l0 q) rfl rfl rfl (by rw [HLN.out]; exact HO.out) HB.out HB.out.size (by rw [HLN.out]; have := HJ5.out; omega) ?_; intro v5 w5 hown hb5 hgr hat; have HO5 : Aside0 (w5.ownsRow w.heap.size 9 1 v5 (j + 1) (encs Value.string (path_Sort.out l0 ys (j + 1)))) := ⟨by rw [HQ.out]; rw [List.length_append, HLN.out] at hown; exact hown⟩; have HR5 : Aside0 (Go.Proofs.YtcmajhdgaeploaaDoor.Stab.Row w.heap.size gp i cap w5 ys) := ⟨Rows2.row_grown HR.out hgr (fun k hk => Rows2.typed_ne HR.out HO.out (by decide) k hk)⟩; have HB5 := Aside0.mk hb5; clear hown hb5 hgr hat HO HR HB)
            rw [EW.out]
            exact ⟨⟨j + 1, ⟨HJ6.out⟩, rfl, HO5, HR5, HB5⟩, by have := HJ6.out; simp only [intOf, Int.toNat_natCast]; omega⟩
          · obtain rfl : j = i := by have := HJ.out; omega
            have d2 : decide ((j : Int) < (j : Int)) = false := decide_eq_false (by omega)
            have d2b : decide (j < j) = false := decide_eq_false (by omega)
            clear hlt
            go_wp2
            go_ret
            exact ⟨_, rfl, Kd.R_of_own (show wr.ownsRow w.heap.size 9 1 _ (Go.Proofs.YtcmajhdgaeploaaDoor.PathOrd.isort l0).length (encs Value.string (Go.Proofs.YtcmajhdgaeploaaDoor.PathOrd.isort l0)) from by rw [HRL.out, ← HRES.out]; exact HO.out) (fun _ _ => trivial), HB.out⟩
set_option maxHeartbeats 2000000 in
set_option maxRecDepth 100000 in
theorem path_Sort.none_calls (A0 : Option Addr) (c0 : Nat) (w : World) (hL : Laid w) :
    Calls Tryd.prog 31 #[.slice A0 0 c0] w fun e w' => ∃ v0_ : Value, e = .returned v0_ ∧ Kd.R Kd.string 9 w' w.heap.size (fun _ => True) v0_ ([] : List ByteArray) ∧ Below w.heap.size w w' := by
    have HB := Aside0.mk (Below.refl w.heap.size w)
    clear hL
    go_enter Tryd.func31, Tryd.ntmps31
    go_wp2_with ((with_reducible refine gate_dst (N := 11) rfl ?_); refine box_event ?hg (N := 11) ?hd (cs := #[.slice none 0 0]) (t := 72) ?hr ?_; (case hd => rfl); (case hg => rfl); (case hr => first | (go_simp; done) | (go_simp; rfl)); intro gl hg wb hbox hb; have n0_ := Aside0.mk (below_step HB.out hb); clear HB; have HB := n0_; clear n0_; clear hb hbox hg)
    go_loopw [4, 14] (fun v4 v14 W => v4 = .slice none 0 0 ∧ v14 = .int .i64 0 ∧ Aside0 (Below w.heap.size w W)) (fun _ _ _ => 0)
    case atStart => exact ⟨rfl, rfl, HB⟩
    case round =>
      clear HB
      obtain ⟨rfl, rfl, HB⟩ := hrel
      go_wp2_with (first | (go_at_call 57; (with_reducible refine (path_Sort.sort_nil ⟨gl, 0, none⟩ _).mono ?_); rintro e w6 ⟨rfl, rfl⟩))
      go_loopw [7, 41] (fun v7 v41 W => v7 = .slice none 0 0 ∧ v41 = .int .i64 0 ∧ Aside0 (Below w.heap.size w W)) (fun _ _ _ => 0)
      case atStart => exact ⟨rfl, rfl, HB⟩
      case round =>
        clear HB
        obtain ⟨rfl, rfl, HB⟩ := hrel
        go_wp2
        go_ret
        exact ⟨_, rfl, Kd.R_of_own (show wr.ownsRow w.heap.size 9 1 _ ([] : List ByteArray).length (encs Value.string ([] : List ByteArray)) from own_nil _ _ _ _) (fun _ _ => trivial), HB.out⟩
theorem path_Sort.calls (A0 : Option Addr) (c0 : Nat) (l0 : List ByteArray) (r : List ByteArray) (w : World) (hr0 : Kd.C Kd.string w A0 l0.length l0) (hc0 : l0.length ≤ c0) (hL : Laid w) (h : path_Sort.f l0 = some r) :
    Calls Tryd.prog 31 #[.slice A0 l0.length c0] w fun e w' => ∃ v0_ : Value, e = .returned v0_ ∧ Kd.R Kd.string 9 w' w.heap.size (fun _ => True) v0_ r ∧ Below w.heap.size w w' := by
  unfold path_Sort.f at h
  split at h
  · rename_i hq
    obtain rfl := Option.some.inj h
    by_cases hn : l0 = []
    · subst hn
      exact path_Sort.none_calls A0 c0 w hL
    · have hp : 0 < l0.length := List.length_pos_iff.2 hn
      have hrd := Kd.reads_of_C (enc := Value.string) (d := (⟨#[]⟩ : ByteArray)) (h1 := fun _ => rfl) hr0
      obtain ⟨ad, rfl, hcell⟩ := hrd.2.2 hp
      refine path_Sort.some_calls ad l0.length c0 l0 w rfl hp hq.1 (fun k => ?_) hcell hc0 hL
      unfold path_Sort.tx
      rw [List.getD_eq_getElem?_getD]
      rcases Nat.lt_or_ge k l0.length with hk | hk
      · rw [List.getElem?_eq_getElem hk]; exact hq.2 _ (List.getElem_mem hk)
      · rw [List.getElem?_eq_none hk]; decide
  · cases h

/-! ### garretbook_SameTexts: function 35 -/
def garretbook_SameTexts.l0 : Nat → List ByteArray → List ByteArray → Int → Option (Bool)
  | 0, _, _, _ => none
  | k + 1, x0, x1, x5 => if x5 < (x0.length : Int) then (if 0 ≤ x5 then (if x5 < (x1.length : Int) then (if (rdOf ByteArray.empty x0 x5).toList = (rdOf ByteArray.empty x1 x5).toList then (garretbook_SameTexts.l0 k x0 x1 (wrap64 (x5 + 1))) else (some false)) else (none)) else (none)) else (some true)
def garretbook_SameTexts.f (k : Nat) (l0 : List ByteArray) (l1 : List ByteArray) : Option (Bool) := if (l0.length : Int) = (l1.length : Int) then (garretbook_SameTexts.l0 k l0 l1 0) else (some false)
theorem garretbook_SameTexts.mono_l : ∀ k, (∀ y0 y1 y2, LeO (garretbook_SameTexts.l0 k y0 y1 y2) (garretbook_SameTexts.l0 (k + 1) y0 y1 y2))
  | 0 => fun _ _ _ r h => by simp [garretbook_SameTexts.l0] at h
  | k + 1 => by
    have ih0 := garretbook_SameTexts.mono_l k
    · intro y0 y1 y2
      unfold garretbook_SameTexts.l0
      repeat' first
      | (with_reducible exact ih0 _ _ _)
      | (with_reducible exact LeO.refl _)
      | (with_reducible exact LeO.none _)
      | (with_reducible refine LeO.ite ?_ ?_)
      | (with_reducible refine LeO.bind ?_ (fun _ => ?_))
      | exact ih0 _ _ _
      | exact LeO.none _
      | refine LeO.ite ?_ ?_
      | refine LeO.bind ?_ (fun _ => ?_)
theorem garretbook_SameTexts.mono : ∀ a0 a1 k, LeO (garretbook_SameTexts.f k a0 a1) (garretbook_SameTexts.f (k + 1) a0 a1) := by
  intro a0 a1 k
  have ih0 := garretbook_SameTexts.mono_l k
  unfold garretbook_SameTexts.f
  repeat' first
      | (with_reducible exact ih0 _ _ _)
      | (with_reducible exact LeO.refl _)
      | (with_reducible exact LeO.none _)
      | (with_reducible refine LeO.ite ?_ ?_)
      | (with_reducible refine LeO.bind ?_ (fun _ => ?_))
      | exact ih0 _ _ _
      | exact LeO.none _
      | refine LeO.ite ?_ ?_
      | refine LeO.bind ?_ (fun _ => ?_)
set_option maxHeartbeats 8000000 in
set_option maxRecDepth 100000 in
theorem garretbook_SameTexts.calls (k : Nat) (A0 : Option Addr) (c0 : Nat) (l0 : List ByteArray) (A1 : Option Addr) (c1 : Nat) (l1 : List ByteArray) (r : Bool) (w : World) (hr0 : Kd.C Kd.string w A0 l0.length l0) (hc0 : l0.length ≤ c0) (hr1 : Kd.C Kd.string w A1 l1.length l1) (hc1 : l1.length ≤ c1) (h : garretbook_SameTexts.f k l0 l1 = some r) :
    Calls Tryd.prog 35 #[.slice A0 l0.length c0, .slice A1 l1.length c1] w fun e w' => e = .returned (.bool r) ∧ Drawn0 w w' := by
  have HR0 := Aside0.mk hr0
  have HC0 := Aside0.mk hc0
  clear hr0 hc0
  have HR1 := Aside0.mk hr1
  have HC1 := Aside0.mk hc1
  clear hr1 hc1
  have H : (if (l0.length : Int) = (l1.length : Int) then (garretbook_SameTexts.l0 k l0 l1 0) else (some false)) = some r := h
  clear h
  by_cases c3 : (l0.length : Int) = (l1.length : Int)
  · rw [if_pos c3] at H
    have c3b0 : ((l0.length : Int) == (l1.length : Int)) = true := beq_iff_eq.mpr c3
    have c3b1 : ((l0.length : Int) != (l1.length : Int)) = false := bne_eq_false_iff_eq.mpr c3
    have c3b2 : (l0.length == l1.length) = true := by first | simpa using c3 | (simp at c3 ⊢; omega)
    clear c3
    have H' := Aside0.mk H
    clear H
    go_enter Tryd.func35, Tryd.ntmps35
    go_wp2
    repeat (go_quiet (fail); try go_wp2)
    go_loopg [5] k (fun kq v5 w' => ∃ (x5_1 : Int), v5 = .int .i64 x5_1 ∧ Aside0 (garretbook_SameTexts.l0 kq l0 l1 x5_1 = some r) ∧ Aside0 (kq ≤ k) ∧ Drawn0 w w')
    case atStart => exact ⟨(0), (by first | rfl | (simp; done) | (simp [*]; done) | (simp; exact (by decide : ∀ p q : Bool, (p == q) = (!(p != q))) _ _) | (simp; exact (by decide : ∀ p q : Bool, (!(p != q)) = (p == q)) _ _)), H', ⟨Nat.le_refl _⟩, by repeat (first | exact Drawn0.refl _ | apply Drawn0.step)⟩
    case round =>
      clear H'
      try clear c1
      try clear p2
      try clear c3
      try clear c3b0
      try clear c3b1
      try clear c3b2
      obtain ⟨x5_1, rfl, HA, HK1, ⟨m1, rfl⟩⟩ := hrel
      cases gk with
      | zero => exact absurd HA.out (by simp [garretbook_SameTexts.l0])
      | succ k1 =>
        have H := HA.out
        clear HA
        simp only [garretbook_SameTexts.l0] at H
        by_cases c4 : x5_1 < (l0.length : Int)
        · rw [if_pos c4] at H
          have c4b0 : decide (x5_1 < (l0.length : Int)) = true := decide_eq_true c4
          clear c4
          by_cases c5 : 0 ≤ x5_1
          · rw [if_pos c5] at H
            have c5b0 : decide (0 ≤ x5_1) = true := decide_eq_true c5
            clear c5
            by_cases c6 : x5_1 < (l1.length : Int)
            · rw [if_pos c6] at H
              have c6b0 : decide (x5_1 < (l1.length : Int)) = true := decide_eq_true c6
              clear c6
              by_cases c7 : (rdOf ByteArray.empty l0 x5_1).toList = (rdOf ByteArray.empty l1 x5_1).toList
              · rw [if_pos c7] at H
                have c7b0 : ((rdOf ByteArray.empty l0 x5_1).toList == (rdOf ByteArray.empty l1 x5_1).toList) = true := beq_iff_eq.mpr c7
                have c7b1 : ((rdOf ByteArray.empty l0 x5_1).toList != (rdOf ByteArray.empty l1 x5_1).toList) = false := bne_eq_false_iff_eq.mpr c7
                clear c7
                have H' := Aside0.mk H
                clear H
                have p107 : 0 ≤ (x5_1 : Int) := of_decide_eq_true (by first | (with_reducible assumption) | assumption)
                have q107 : x5_1 < (l0.length : Int) := of_decide_eq_true (by first | (with_reducible assumption) | assumption)
                obtain ⟨ad107, e107, hx107_0⟩ := Kd.at_string HR0.out x5_1 p107 q107
                cases e107
                replace p107 := eq_true p107
                replace q107 := eq_true q107
                have p108 : 0 ≤ (x5_1 : Int) := of_decide_eq_true (by first | (with_reducible assumption) | assumption)
                have q108 : x5_1 < (l1.length : Int) := of_decide_eq_true (by first | (with_reducible assumption) | assumption)
                obtain ⟨ad108, e108, hx108_0⟩ := Kd.at_string HR1.out x5_1 p108 q108
                cases e108
                replace p108 := eq_true p108
                replace q108 := eq_true q108
                go_wp2
                repeat (go_quiet (fail); try go_wp2)
                go_roundg k1
                case measure => have := HK1.out; omega
                case rel => exact ⟨(wrap64 (x5_1 + 1)), (by first | rfl | (simp; done) | (simp [*]; done) | (simp; exact (by decide : ∀ p q : Bool, (p == q) = (!(p != q))) _ _) | (simp; exact (by decide : ∀ p q : Bool, (!(p != q)) = (p == q)) _ _)), H', ⟨by have := HK1.out; omega⟩, by repeat (first | exact Drawn0.refl _ | apply Drawn0.step)⟩
              · rw [if_neg c7] at H
                have c7b0 : ((rdOf ByteArray.empty l0 x5_1).toList == (rdOf ByteArray.empty l1 x5_1).toList) = false := beq_eq_false_iff_ne.mpr c7
                have c7b1 : ((rdOf ByteArray.empty l0 x5_1).toList != (rdOf ByteArray.empty l1 x5_1).toList) = true := bne_iff_ne.mpr c7
                obtain rfl := Option.some.inj H
                have p107 : 0 ≤ (x5_1 : Int) := of_decide_eq_true (by first | (with_reducible assumption) | assumption)
                have q107 : x5_1 < (l0.length : Int) := of_decide_eq_true (by first | (with_reducible assumption) | assumption)
                obtain ⟨ad107, e107, hx107_0⟩ := Kd.at_string HR0.out x5_1 p107 q107
                cases e107
                replace p107 := eq_true p107
                replace q107 := eq_true q107
                have p108 : 0 ≤ (x5_1 : Int) := of_decide_eq_true (by first | (with_reducible assumption) | assumption)
                have q108 : x5_1 < (l1.length : Int) := of_decide_eq_true (by first | (with_reducible assumption) | assumption)
                obtain ⟨ad108, e108, hx108_0⟩ := Kd.at_string HR1.out x5_1 p108 q108
                cases e108
                replace p108 := eq_true p108
                replace q108 := eq_true q108
                go_wp2
                repeat (go_quiet (fail); try go_wp2)
                go_ret
                exact ⟨by first | rfl | (simp; done) | (simp [*]; done) | (simp; exact (by decide : ∀ p q : Bool, (p == q) = (!(p != q))) _ _) | (simp; exact (by decide : ∀ p q : Bool, (!(p != q)) = (p == q)) _ _), by repeat (first | exact Drawn0.refl _ | apply Drawn0.step)⟩
            · rw [if_neg c6] at H
              exact absurd H (by simp)
          · rw [if_neg c5] at H
            exact absurd H (by simp)
        · rw [if_neg c4] at H
          have c4b0 : decide (x5_1 < (l0.length : Int)) = false := decide_eq_false c4
          clear c4
          obtain rfl := Option.some.inj H
          go_wp2
          repeat (go_quiet (fail); try go_wp2)
          go_ret
          exact ⟨by first | rfl | (simp; done) | (simp [*]; done) | (simp; exact (by decide : ∀ p q : Bool, (p == q) = (!(p != q))) _ _) | (simp; exact (by decide : ∀ p q : Bool, (!(p != q)) = (p == q)) _ _), by repeat (first | exact Drawn0.refl _ | apply Drawn0.step)⟩
  · rw [if_neg c3] at H
    have c3b0 : ((l0.length : Int) == (l1.length : Int)) = false := beq_eq_false_iff_ne.mpr c3
    have c3b1 : ((l0.length : Int) != (l1.length : Int)) = true := bne_iff_ne.mpr c3
    have c3b2 : (l0.length == l1.length) = false := by first | simpa using c3 | (simp at c3 ⊢; omega)
    obtain rfl := Option.some.inj H
    go_enter Tryd.func35, Tryd.ntmps35
    go_wp2
    repeat (go_quiet (fail); try go_wp2)
    go_ret
    exact ⟨by first | rfl | (simp; done) | (simp [*]; done) | (simp; exact (by decide : ∀ p q : Bool, (p == q) = (!(p != q))) _ _) | (simp; exact (by decide : ∀ p q : Bool, (!(p != q)) = (p == q)) _ _), by repeat (first | exact Drawn0.refl _ | apply Drawn0.step)⟩

/-! ### garretlaw17_works: function 19 -/
def garretlaw17_works.f (k : Nat)  : Option (Bool) := (path_Sort.f (([(⟨#[97, 45, 98]⟩ : ByteArray), (⟨#[97, 47, 98]⟩ : ByteArray), (⟨#[97]⟩ : ByteArray)] : List ByteArray))).bind fun t112 => ((garretbook_SameTexts.f k t112 (([(⟨#[97]⟩ : ByteArray), (⟨#[97, 47, 98]⟩ : ByteArray), (⟨#[97, 45, 98]⟩ : ByteArray)] : List ByteArray))).bind fun t118 => (some t118))
theorem garretlaw17_works.mono : ∀ k, LeO (garretlaw17_works.f k ) (garretlaw17_works.f (k + 1) ) := by
  intro  k
  unfold garretlaw17_works.f
  repeat' first
      | (with_reducible exact garretbook_SameTexts.mono _ _ _)
      | (with_reducible exact LeO.refl _)
      | (with_reducible exact LeO.none _)
      | (with_reducible refine LeO.ite ?_ ?_)
      | (with_reducible refine LeO.bind ?_ (fun _ => ?_))
      | exact garretbook_SameTexts.mono _ _ _
      | exact LeO.none _
      | refine LeO.ite ?_ ?_
      | refine LeO.bind ?_ (fun _ => ?_)
set_option maxHeartbeats 8000000 in
set_option maxRecDepth 100000 in
theorem garretlaw17_works.calls (k : Nat)  (r : Bool) (w : World) (hL : Laid w) (h : garretlaw17_works.f k  = some r) :
    Calls Tryd.prog 19 #[] w fun e w' => e = .returned (.bool r) ∧ Below w.heap.size w w' := by
  have HLAID := Aside0.mk hL
  clear hL
  have HB := Aside0.mk (Below.refl w.heap.size w)
  have H : ((path_Sort.f (([(⟨#[97, 45, 98]⟩ : ByteArray), (⟨#[97, 47, 98]⟩ : ByteArray), (⟨#[97]⟩ : ByteArray)] : List ByteArray))).bind fun t112 => ((garretbook_SameTexts.f k t112 (([(⟨#[97]⟩ : ByteArray), (⟨#[97, 47, 98]⟩ : ByteArray), (⟨#[97, 45, 98]⟩ : ByteArray)] : List ByteArray))).bind fun t118 => (some t118))) = some r := h
  clear h
  obtain ⟨y109, hy109⟩ : ∃ y_ : List ByteArray, y_ = (([(⟨#[97, 45, 98]⟩ : ByteArray), (⟨#[97, 47, 98]⟩ : ByteArray), (⟨#[97]⟩ : ByteArray)] : List ByteArray)) := ⟨_, rfl⟩
  replace H : ((path_Sort.f y109).bind fun t112 => ((garretbook_SameTexts.f k t112 (([(⟨#[97]⟩ : ByteArray), (⟨#[97, 47, 98]⟩ : ByteArray), (⟨#[97, 45, 98]⟩ : ByteArray)] : List ByteArray))).bind fun t118 => (some t118))) = some r := by first | (rw [hy109]; with_reducible exact H) | (have H2_ := (Option.bind_some _ _).symm.trans H; rw [hy109]; with_reducible exact H2_) | (have H2_ := (Option.bind_some _ _).symm.trans H; with_reducible exact H2_) | with_reducible exact H | (rw [hy109]; exact H) | exact H
  have Ny109 := Aside0.mk hy109
  clear hy109
  replace H := Option.bind_eq_some_iff.mp H
  obtain ⟨t112, A10, H⟩ := H
  replace H : ((garretbook_SameTexts.f k t112 (([(⟨#[97]⟩ : ByteArray), (⟨#[97, 47, 98]⟩ : ByteArray), (⟨#[97, 45, 98]⟩ : ByteArray)] : List ByteArray))).bind fun t118 => (some t118)) = some r := H
  have A1 := Aside0.mk A10
  clear A10
  obtain ⟨y115, hy115⟩ : ∃ y_ : List ByteArray, y_ = (([(⟨#[97]⟩ : ByteArray), (⟨#[97, 47, 98]⟩ : ByteArray), (⟨#[97, 45, 98]⟩ : ByteArray)] : List ByteArray)) := ⟨_, rfl⟩
  replace H : ((garretbook_SameTexts.f k t112 y115).bind fun t118 => (some t118)) = some r := by first | (rw [hy115]; with_reducible exact H) | (have H2_ := (Option.bind_some _ _).symm.trans H; rw [hy115]; with_reducible exact H2_) | (have H2_ := (Option.bind_some _ _).symm.trans H; with_reducible exact H2_) | with_reducible exact H | (rw [hy115]; exact H) | exact H
  have Ny115 := Aside0.mk hy115
  clear hy115
  replace H := Option.bind_eq_some_iff.mp H
  obtain ⟨t118, A20, H⟩ := H
  replace H : (some t118) = some r := H
  have A2 := Aside0.mk A20
  clear A20
  obtain rfl := Option.some.inj H
  go_enter Tryd.func19, Tryd.ntmps19
  go_wp2_with (first | ((with_reducible refine gate_dst (N := 1) rfl ?_); refine Kd.R_lit Kd.string _ 9 ?hg (N := 1) ?hd (xs := ([(⟨#[97, 45, 98]⟩ : ByteArray), (⟨#[97, 47, 98]⟩ : ByteArray), (⟨#[97]⟩ : ByteArray)] : List ByteArray)) (inner := [.string (⟨#[97, 45, 98]⟩ : ByteArray), .string (⟨#[97, 47, 98]⟩ : ByteArray), .string (⟨#[97]⟩ : ByteArray)]) (ok := fun _ => True) (okp := fun _ => True) ?hr ?hp (fun _ hk => hk) trivial (Below.refl _ _) (Nat.le_refl _) (by simp) ?_; (case hd => rfl); (case hg => rfl); (case hr => first | (go_simp; done) | (go_simp; rfl)); (case hp => exact (Reps.one (show Kd.M Kd.string _ _ _ (⟨#[97, 45, 98]⟩ : ByteArray) [.string (⟨#[97, 45, 98]⟩ : ByteArray)] from rfl) (Reps.one (show Kd.M Kd.string _ _ _ (⟨#[97, 47, 98]⟩ : ByteArray) [.string (⟨#[97, 47, 98]⟩ : ByteArray)] from rfl) (Reps.one (show Kd.M Kd.string _ _ _ (⟨#[97]⟩ : ByteArray) [.string (⟨#[97]⟩ : ByteArray)] from rfl) (Reps.none _ _))))); intro v110 w3 ho4 hb hg_ hnew_; clear hg_ hnew_; (first | rw [← Ny109.out] at ho4 | (simp only [Int.reduceToNat] at ho4; rw [← Ny109.out] at ho4)); have n0_ := Aside0.mk (Kd.R_lower ho4 (below_size (by repeat (first | (with_reducible first | exact HB.out | apply below_alloc | apply pw_below_drewN | apply below_drew1) | exact HB.out)))); have n1_ := Aside0.mk (below_step (by repeat (first | (with_reducible first | exact HB.out | apply below_alloc | apply pw_below_drewN | apply below_drew1) | exact HB.out)) hb); clear HB; have HO111 := n0_; have HB := n1_; clear n0_ n1_; clear hb ho4; obtain ⟨Ao5, co5, eo5⟩ := Kd.R_slice HO111.out; subst eo5) | ((with_reducible refine gate_callee (f := 31) rfl ?_); refine goesL_ (some 2) rfl rfl Tryd.func31 (by kernel_rfl) rfl #[.slice Ao5 y109.length co5] rfl (by (try simp only [List.map_toArray, List.map_cons, List.map_nil]); first | done | rfl | (simp only [List.length_drop, List.length_take]; rfl)) ?_; (with_reducible refine (path_Sort.calls _ _ y109 t112 _ ?side1 ?side2 ?side3 A1.out).mono ?_); (case side1 => repeat (first | exact (Kd.R_reads' HO111.out).2.2 | (with_reducible refine Kd.C_alloc ?_ _) | (with_reducible refine Kd.C_drewN ?_ _) | (with_reducible refine Kd.C_drew ?_))); (case side2 => exact (Kd.R_reads' HO111.out).2.1); (case side3 => first | exact HLAID.out | exact Laid.drewN HLAID.out _ | exact Laid.below HLAID.out (by repeat (first | (with_reducible first | exact HB.out | apply below_alloc | apply pw_below_drewN | apply below_drew1) | exact HB.out))); rintro e w6 ⟨v113, rfl, ho0, hb⟩; refine ⟨_, rfl, ?_⟩; have n0_ := Aside0.mk (Kd.R_elder' (by (with_reducible repeat (first | apply Kd.R_alloc | apply Kd.R_drewN | apply Kd.R_drew)); exact HO111.out) (Kd.R_base ho0) hb); have n1_ := Aside0.mk (Kd.R_lower (Kd.R_new' ho0 (Kd.R_lt (by (with_reducible repeat (first | apply Kd.R_alloc | apply Kd.R_drewN | apply Kd.R_drew)); exact HO111.out))) (below_size (by repeat (first | (with_reducible first | exact HB.out | apply below_alloc | apply pw_below_drewN | apply below_drew1) | exact HB.out)))); have n2_ := Aside0.mk (below_step (by repeat (first | (with_reducible first | exact HB.out | apply below_alloc | apply pw_below_drewN | apply below_drew1) | exact HB.out)) hb); clear HO111; clear HB; have HO111 := n0_; have HO114 := n1_; have HB := n2_; clear n0_ n1_ n2_; (try clear hb); (try clear hb2); (try clear hk); (try clear hi); (try clear ho0)) | ((with_reducible refine gate_dst (N := 3) rfl ?_); refine Kd.R_lit Kd.string _ 9 ?hg (N := 3) ?hd (xs := ([(⟨#[97]⟩ : ByteArray), (⟨#[97, 47, 98]⟩ : ByteArray), (⟨#[97, 45, 98]⟩ : ByteArray)] : List ByteArray)) (inner := [.string (⟨#[97]⟩ : ByteArray), .string (⟨#[97, 47, 98]⟩ : ByteArray), .string (⟨#[97, 45, 98]⟩ : ByteArray)]) (ok := fun _ => True) (okp := fun _ => True) ?hr ?hp (fun _ hk => hk) trivial (Below.refl _ _) (Nat.le_refl _) (by simp) ?_; (case hd => rfl); (case hg => rfl); (case hr => first | (go_simp; done) | (go_simp; rfl)); (case hp => exact (Reps.one (show Kd.M Kd.string _ _ _ (⟨#[97]⟩ : ByteArray) [.string (⟨#[97]⟩ : ByteArray)] from rfl) (Reps.one (show Kd.M Kd.string _ _ _ (⟨#[97, 47, 98]⟩ : ByteArray) [.string (⟨#[97, 47, 98]⟩ : ByteArray)] from rfl) (Reps.one (show Kd.M Kd.string _ _ _ (⟨#[97, 45, 98]⟩ : ByteArray) [.string (⟨#[97, 45, 98]⟩ : ByteArray)] from rfl) (Reps.none _ _))))); intro v116 w7 ho8 hb hg_ hnew_; clear hg_ hnew_; (first | rw [← Ny115.out] at ho8 | (simp only [Int.reduceToNat] at ho8; rw [← Ny115.out] at ho8)); have n0_ := Aside0.mk (Kd.R_elder' (by (with_reducible repeat (first | apply Kd.R_alloc | apply Kd.R_drewN | apply Kd.R_drew)); exact HO111.out) (Kd.R_base ho8) hb); have n1_ := Aside0.mk (Kd.R_elder' (by (with_reducible repeat (first | apply Kd.R_alloc | apply Kd.R_drewN | apply Kd.R_drew)); exact HO114.out) (Kd.R_base ho8) hb); have n2_ := Aside0.mk (Kd.R_lower (Kd.R_new' (Kd.R_new' ho8 (Kd.R_lt (by (with_reducible repeat (first | apply Kd.R_alloc | apply Kd.R_drewN | apply Kd.R_drew)); exact HO111.out))) (Kd.R_lt (by (with_reducible repeat (first | apply Kd.R_alloc | apply Kd.R_drewN | apply Kd.R_drew)); exact HO114.out))) (below_size (by repeat (first | (with_reducible first | exact HB.out | apply below_alloc | apply pw_below_drewN | apply below_drew1) | exact HB.out)))); have n3_ := Aside0.mk (below_step (by repeat (first | (with_reducible first | exact HB.out | apply below_alloc | apply pw_below_drewN | apply below_drew1) | exact HB.out)) hb); clear HO111; clear HO114; clear HB; have HO111 := n0_; have HO114 := n1_; have HO117 := n2_; have HB := n3_; clear n0_ n1_ n2_ n3_; clear hb ho8; obtain ⟨Ao9, co9, eo9⟩ := Kd.R_slice HO114.out; subst eo9; obtain ⟨Ao10, co10, eo10⟩ := Kd.R_slice HO117.out; subst eo10) | ((with_reducible refine gate_callee (f := 35) rfl ?_); refine goesL_ (some 4) rfl rfl Tryd.func35 (by kernel_rfl) rfl #[.slice Ao9 t112.length co9, .slice Ao10 y115.length co10] rfl (by (try simp only [List.map_toArray, List.map_cons, List.map_nil]); first | done | rfl | (simp only [List.length_drop, List.length_take]; rfl)) ?_; (with_reducible refine (garretbook_SameTexts.calls k _ _ t112 _ _ y115 t118 _ ?side1 ?side2 ?side3 ?side4 A2.out).mono ?_); (case side1 => repeat (first | exact (Kd.R_reads' HO114.out).2.2 | (with_reducible refine Kd.C_alloc ?_ _) | (with_reducible refine Kd.C_drewN ?_ _) | (with_reducible refine Kd.C_drew ?_))); (case side2 => exact (Kd.R_reads' HO114.out).2.1); (case side3 => repeat (first | exact (Kd.R_reads' HO117.out).2.2 | (with_reducible refine Kd.C_alloc ?_ _) | (with_reducible refine Kd.C_drewN ?_ _) | (with_reducible refine Kd.C_drew ?_))); (case side4 => exact (Kd.R_reads' HO117.out).2.1); rintro e w' ⟨rfl, ⟨nd, rfl⟩⟩; refine ⟨_, rfl, ?_⟩))
  go_ret
  exact ⟨by first | rfl | (simp [errW_none, errW_some] <;> rfl) | (simp [*, errW_none, errW_some] <;> rfl), by repeat (first | (with_reducible first | exact HB.out | apply below_alloc | apply pw_below_drewN | apply below_drew1) | exact HB.out)⟩

/-! ### path_Less: function 20 -/
def path_Less.f (k : Nat) (a0 : ByteArray) (a1 : ByteArray) : Option (Bool) := (path_parts.f a0).bind fun t119 => ((path_parts.f a1).bind fun t122 => ((slices_Compare_string_string.f k t119 t122).bind fun t125 => (some (decide (t125 < 0)))))
theorem path_Less.mono : ∀ a0 a1 k, LeO (path_Less.f k a0 a1) (path_Less.f (k + 1) a0 a1) := by
  intro a0 a1 k
  unfold path_Less.f
  repeat' first
      | (with_reducible exact slices_Compare_string_string.mono _ _ _)
      | (with_reducible exact LeO.refl _)
      | (with_reducible exact LeO.none _)
      | (with_reducible refine LeO.ite ?_ ?_)
      | (with_reducible refine LeO.bind ?_ (fun _ => ?_))
      | exact slices_Compare_string_string.mono _ _ _
      | exact LeO.none _
      | refine LeO.ite ?_ ?_
      | refine LeO.bind ?_ (fun _ => ?_)
set_option maxHeartbeats 8000000 in
set_option maxRecDepth 100000 in
theorem path_Less.calls (k : Nat) (a0 : ByteArray) (a1 : ByteArray) (r : Bool) (w : World) (hL : Laid w) (h : path_Less.f k a0 a1 = some r) :
    Calls Tryd.prog 20 #[.string a0, .string a1] w fun e w' => e = .returned (.bool r) ∧ Below w.heap.size w w' := by
  have HLAID := Aside0.mk hL
  clear hL
  have HB := Aside0.mk (Below.refl w.heap.size w)
  have H : ((path_parts.f a0).bind fun t119 => ((path_parts.f a1).bind fun t122 => ((slices_Compare_string_string.f k t119 t122).bind fun t125 => (some (decide (t125 < 0)))))) = some r := h
  clear h
  replace H := Option.bind_eq_some_iff.mp H
  obtain ⟨t119, A30, H⟩ := H
  replace H : ((path_parts.f a1).bind fun t122 => ((slices_Compare_string_string.f k t119 t122).bind fun t125 => (some (decide (t125 < 0))))) = some r := H
  have A3 := Aside0.mk A30
  clear A30
  replace H := Option.bind_eq_some_iff.mp H
  obtain ⟨t122, A40, H⟩ := H
  replace H : ((slices_Compare_string_string.f k t119 t122).bind fun t125 => (some (decide (t125 < 0)))) = some r := H
  have A4 := Aside0.mk A40
  clear A40
  replace H := Option.bind_eq_some_iff.mp H
  obtain ⟨t125, A50, H⟩ := H
  replace H : (some (decide (t125 < 0))) = some r := H
  have A5 := Aside0.mk A50
  clear A50
  obtain rfl := Option.some.inj H
  go_enter Tryd.func20, Tryd.ntmps20
  go_wp2_with (first | ((with_reducible refine gate_callee (f := 53) rfl ?_); refine goesL_ (some 6) rfl rfl Tryd.func53 (by kernel_rfl) rfl #[.string a0] rfl (by (try simp only [List.map_toArray, List.map_cons, List.map_nil]); first | done | rfl | (simp only [List.length_drop, List.length_take]; rfl)) ?_; (with_reducible refine (path_parts.calls a0 t119 _ ?side1 A3.out).mono ?_); (case side1 => first | exact HLAID.out | exact Laid.drewN HLAID.out _ | exact Laid.below HLAID.out (by repeat (first | (with_reducible first | exact HB.out | apply below_alloc | apply pw_below_drewN | apply below_drew1) | exact HB.out))); rintro e w6 ⟨v120, rfl, ho0, hb⟩; refine ⟨_, rfl, ?_⟩; have n0_ := Aside0.mk (Kd.R_lower ho0 (below_size (by repeat (first | (with_reducible first | exact HB.out | apply below_alloc | apply pw_below_drewN | apply below_drew1) | exact HB.out)))); have n1_ := Aside0.mk (below_step (by repeat (first | (with_reducible first | exact HB.out | apply below_alloc | apply pw_below_drewN | apply below_drew1) | exact HB.out)) hb); clear HB; have HO121 := n0_; have HB := n1_; clear n0_ n1_; (try clear hb); (try clear hb2); (try clear hk); (try clear hi); (try clear ho0)) | ((with_reducible refine gate_callee (f := 53) rfl ?_); refine goesL_ (some 8) rfl rfl Tryd.func53 (by kernel_rfl) rfl #[.string a1] rfl (by (try simp only [List.map_toArray, List.map_cons, List.map_nil]); first | done | rfl | (simp only [List.length_drop, List.length_take]; rfl)) ?_; (with_reducible refine (path_parts.calls a1 t122 _ ?side1 A4.out).mono ?_); (case side1 => first | exact HLAID.out | exact Laid.drewN HLAID.out _ | exact Laid.below HLAID.out (by repeat (first | (with_reducible first | exact HB.out | apply below_alloc | apply pw_below_drewN | apply below_drew1) | exact HB.out))); rintro e w7 ⟨v123, rfl, ho0, hb⟩; refine ⟨_, rfl, ?_⟩; have n0_ := Aside0.mk (Kd.R_elder' (by (with_reducible repeat (first | apply Kd.R_alloc | apply Kd.R_drewN | apply Kd.R_drew)); exact HO121.out) (Kd.R_base ho0) hb); have n1_ := Aside0.mk (Kd.R_lower (Kd.R_new' ho0 (Kd.R_lt (by (with_reducible repeat (first | apply Kd.R_alloc | apply Kd.R_drewN | apply Kd.R_drew)); exact HO121.out))) (below_size (by repeat (first | (with_reducible first | exact HB.out | apply below_alloc | apply pw_below_drewN | apply below_drew1) | exact HB.out)))); have n2_ := Aside0.mk (below_step (by repeat (first | (with_reducible first | exact HB.out | apply below_alloc | apply pw_below_drewN | apply below_drew1) | exact HB.out)) hb); clear HO121; clear HB; have HO121 := n0_; have HO124 := n1_; have HB := n2_; clear n0_ n1_ n2_; (try clear hb); (try clear hb2); (try clear hk); (try clear hi); (try clear ho0); obtain ⟨Ao8, co8, eo8⟩ := Kd.R_slice HO121.out; subst eo8; obtain ⟨Ao9, co9, eo9⟩ := Kd.R_slice HO124.out; subst eo9) | ((with_reducible refine gate_callee (f := 52) rfl ?_); refine goesL_ (some 9) rfl rfl Tryd.func52 (by kernel_rfl) rfl #[.slice Ao8 t119.length co8, .slice Ao9 t122.length co9] rfl (by (try simp only [List.map_toArray, List.map_cons, List.map_nil]); first | done | rfl | (simp only [List.length_drop, List.length_take]; rfl)) ?_; (with_reducible refine (slices_Compare_string_string.calls k _ _ t119 _ _ t122 t125 _ ?side1 ?side2 ?side3 ?side4 A5.out).mono ?_); (case side1 => repeat (first | exact (Kd.R_reads' HO121.out).2.2 | (with_reducible refine Kd.C_alloc ?_ _) | (with_reducible refine Kd.C_drewN ?_ _) | (with_reducible refine Kd.C_drew ?_))); (case side2 => exact (Kd.R_reads' HO121.out).2.1); (case side3 => repeat (first | exact (Kd.R_reads' HO124.out).2.2 | (with_reducible refine Kd.C_alloc ?_ _) | (with_reducible refine Kd.C_drewN ?_ _) | (with_reducible refine Kd.C_drew ?_))); (case side4 => exact (Kd.R_reads' HO124.out).2.1); rintro e w' ⟨rfl, ⟨nd, rfl⟩⟩; refine ⟨_, rfl, ?_⟩))
  go_ret
  exact ⟨by first | rfl | (simp [errW_none, errW_some] <;> rfl) | (simp [*, errW_none, errW_some] <;> rfl), by repeat (first | (with_reducible first | exact HB.out | apply below_alloc | apply pw_below_drewN | apply below_drew1) | exact HB.out)⟩

end Go.Proofs.YtcmajhdgaeploaaDoor.QPthO
