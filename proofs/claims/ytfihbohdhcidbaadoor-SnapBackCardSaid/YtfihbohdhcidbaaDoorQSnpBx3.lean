-- Written for this claim by a program of this session.
import Derived.Test.YtfihbohdhcidbaaDoorQSnpBx0
import Derived.Test.YtfihbohdhcidbaaDoorQSnpBx1
import Derived.Test.YtfihbohdhcidbaaDoorQSnpBx2
namespace Go.Proofs.YtfihbohdhcidbaaDoor.QSnpB
open Go.RowKit Go.Proofs.YtfihbohdhcidbaaDoorW.PrintWords Go.Proofs.YtfihbohdhcidbaaDoorW.PrintLast Go.Proofs.YtfihbohdhcidbaaDoorW.PrintMore
attribute [local go_sem] max2_int min2_int max_two min_two max_three min_three max_four min_four   -- for this text's walks alone
set_option linter.unusedVariables false
set_option linter.unusedSimpArgs false

/-! ### path_IsName: function 82 -/
def path_IsName.j0 : Nat → ByteArray → Bool → Option (Bool)
  | 0, _, _ => none
  | k + 1, x0, x4 => if x4 = true then (some false) else (if (x0.size : Int) ≤ 64 then ((strings_IndexByte.f x0 0).bind fun t132 => (if t132 < 0 then ((strings_Contains.f x0 (⟨#[47]⟩ : ByteArray)).bind fun t133 => (some (!t133))) else (some false))) else (some false))
def path_IsName.f (k : Nat) (a0 : ByteArray) : Option (Bool) := if a0.toList = ([] : List UInt8) then (path_IsName.j0 k a0 (a0.toList == ([] : List UInt8))) else (if a0.toList = ([46] : List UInt8) then (path_IsName.j0 k a0 (a0.toList == ([46] : List UInt8))) else (path_IsName.j0 k a0 (a0.toList == ([46, 46] : List UInt8))))
theorem path_IsName.mono_l : ∀ k, (∀ y0 y1, LeO (path_IsName.j0 k y0 y1) (path_IsName.j0 (k + 1) y0 y1))
  | 0 => fun _ _ r h => by simp [path_IsName.j0] at h
  | k + 1 => by
    have ih0 := path_IsName.mono_l k
    · intro y0 y1
      unfold path_IsName.j0
      repeat' first
      | (with_reducible exact ih0 _ _)
      | (with_reducible exact LeO.refl _)
      | (with_reducible exact LeO.none _)
      | (with_reducible refine LeO.ite ?_ ?_)
      | (with_reducible refine LeO.bind ?_ (fun _ => ?_))
      | exact ih0 _ _
      | exact LeO.none _
      | refine LeO.ite ?_ ?_
      | refine LeO.bind ?_ (fun _ => ?_)
theorem path_IsName.mono : ∀ a0 k, LeO (path_IsName.f k a0) (path_IsName.f (k + 1) a0) := by
  intro a0 k
  have ih0 := path_IsName.mono_l k
  unfold path_IsName.f
  repeat' first
      | (with_reducible exact ih0 _ _)
      | (with_reducible exact LeO.refl _)
      | (with_reducible exact LeO.none _)
      | (with_reducible refine LeO.ite ?_ ?_)
      | (with_reducible refine LeO.bind ?_ (fun _ => ?_))
      | exact ih0 _ _
      | exact LeO.none _
      | refine LeO.ite ?_ ?_
      | refine LeO.bind ?_ (fun _ => ?_)
set_option maxHeartbeats 8000000 in
set_option maxRecDepth 100000 in
theorem path_IsName.calls (k : Nat) (a0 : ByteArray) (r : Bool) (w : World) (h : path_IsName.f k a0 = some r) :
    Calls Tryd.prog 82 #[.string a0] w fun e w' => e = .returned (.bool r) ∧ Drawn0 w w' := by
  have H : (if a0.toList = ([] : List UInt8) then (path_IsName.j0 k a0 (a0.toList == ([] : List UInt8))) else (if a0.toList = ([46] : List UInt8) then (path_IsName.j0 k a0 (a0.toList == ([46] : List UInt8))) else (path_IsName.j0 k a0 (a0.toList == ([46, 46] : List UInt8))))) = some r := h
  clear h
  have HC2 := Aside0.mk H
  clear H
  go_enter Tryd.func82, Tryd.ntmps82
  go_upto_if 4 with (fail)
  go_cut [4] (fun v4 wc => ∃ (kq : Nat) (x4_1 : Bool), v4 = .bool x4_1 ∧ Aside0 (path_IsName.j0 kq a0 x4_1 = some r) ∧ Aside0 (kq ≤ k) ∧ Drawn0 w wc)
  case first =>
    have H := HC2.out
    clear HC2
    by_cases c3 : a0.toList = ([] : List UInt8)
    · rw [if_pos c3] at H
      have c3b0 : (a0.toList == ([] : List UInt8)) = true := beq_iff_eq.mpr c3
      have c3b1 : (a0.toList != ([] : List UInt8)) = false := bne_eq_false_iff_eq.mpr c3
      have c3b2 : a0.toList.isEmpty = true := by rw [c3]; rfl
      clear c3
      (first | rw [c3b0] | (simp only [i64_w, i32_w]; rw [c3b0]) | rw [c3b2] | skip)
      have H' := Aside0.mk H
      clear H
      go_wp2
      go_meet
      case rel => exact ⟨_, ((a0.toList == ([] : List UInt8))), (by first | rfl | (simp; done) | (simp [*]; done) | (simp; exact (by decide : ∀ p q : Bool, (p == q) = (!(p != q))) _ _) | (simp; exact (by decide : ∀ p q : Bool, (!(p != q)) = (p == q)) _ _)), H', ⟨by first | omega | exact Nat.le_refl _⟩, by repeat (first | exact Drawn0.refl _ | apply Drawn0.step)⟩
    · rw [if_neg c3] at H
      have c3b0 : (a0.toList == ([] : List UInt8)) = false := beq_eq_false_iff_ne.mpr c3
      have c3b1 : (a0.toList != ([] : List UInt8)) = true := bne_iff_ne.mpr c3
      have c3b2 : a0.toList.isEmpty = false := by simpa using c3
      (first | rw [c3b0] | (simp only [i64_w, i32_w]; rw [c3b0]) | rw [c3b2] | skip)
      by_cases c4 : a0.toList = ([46] : List UInt8)
      · rw [if_pos c4] at H
        have c4b0 : (a0.toList == ([46] : List UInt8)) = true := beq_iff_eq.mpr c4
        have c4b1 : (a0.toList != ([46] : List UInt8)) = false := bne_eq_false_iff_eq.mpr c4
        clear c4
        have H' := Aside0.mk H
        clear H
        go_wp2
        go_meet
        case rel => exact ⟨_, ((a0.toList == ([46] : List UInt8))), (by first | rfl | (simp; done) | (simp [*]; done) | (simp; exact (by decide : ∀ p q : Bool, (p == q) = (!(p != q))) _ _) | (simp; exact (by decide : ∀ p q : Bool, (!(p != q)) = (p == q)) _ _)), H', ⟨by first | omega | exact Nat.le_refl _⟩, by repeat (first | exact Drawn0.refl _ | apply Drawn0.step)⟩
      · rw [if_neg c4] at H
        have c4b0 : (a0.toList == ([46] : List UInt8)) = false := beq_eq_false_iff_ne.mpr c4
        have c4b1 : (a0.toList != ([46] : List UInt8)) = true := bne_iff_ne.mpr c4
        have H' := Aside0.mk H
        clear H
        go_wp2
        go_meet
        case rel => exact ⟨_, ((a0.toList == ([46, 46] : List UInt8))), (by first | rfl | (simp; done) | (simp [*]; done) | (simp; exact (by decide : ∀ p q : Bool, (p == q) = (!(p != q))) _ _) | (simp; exact (by decide : ∀ p q : Bool, (!(p != q)) = (p == q)) _ _)), H', ⟨by first | omega | exact Nat.le_refl _⟩, by repeat (first | exact Drawn0.refl _ | apply Drawn0.step)⟩
  case rest =>
    clear HC2
    try clear p2
    try clear c3
    try clear c3b0
    try clear c3b1
    try clear c3b2
    try clear c4
    try clear c4b0
    try clear c4b1
    obtain ⟨kq, x4_1, rfl, HA, HJ1, ⟨mc1, rfl⟩⟩ := hcut
    cases kq with
    | zero => exact absurd HA.out (by simp [path_IsName.j0])
    | succ kj1 =>
      have H := HA.out
      clear HA
      simp only [path_IsName.j0] at H
      by_cases c5 : x4_1 = true
      · subst c5
        have H1 : (some false) = some r := by rw [if_pos rfl] at H; exact H
        clear H
        have H := H1
        clear H1
        obtain rfl := Option.some.inj H
        go_wp2
        go_ret
        exact ⟨by first | rfl | (simp; done) | (simp [*]; done) | (simp; exact (by decide : ∀ p q : Bool, (p == q) = (!(p != q))) _ _) | (simp; exact (by decide : ∀ p q : Bool, (!(p != q)) = (p == q)) _ _), by repeat (first | exact Drawn0.refl _ | apply Drawn0.step)⟩
      · replace c5 := Bool.eq_false_iff.mpr c5
        subst c5
        have H1 : (if (a0.size : Int) ≤ 64 then ((strings_IndexByte.f a0 0).bind fun t132 => (if t132 < 0 then ((strings_Contains.f a0 (⟨#[47]⟩ : ByteArray)).bind fun t133 => (some (!t133))) else (some false))) else (some false)) = some r := by rw [if_neg (show ¬ (false = true) by decide)] at H; exact H
        clear H
        have H := H1
        clear H1
        by_cases c6 : (a0.size : Int) ≤ 64
        · rw [if_pos c6] at H
          have c6b0 : decide ((a0.size : Int) ≤ 64) = true := decide_eq_true c6
          have c6b1 : decide (a0.size ≤ 64) = true := decide_eq_true (by omega)
          clear c6
          replace H := Option.bind_eq_some_iff.mp H
          obtain ⟨t132, A70, H⟩ := H
          replace H : (if t132 < 0 then ((strings_Contains.f a0 (⟨#[47]⟩ : ByteArray)).bind fun t133 => (some (!t133))) else (some false)) = some r := H
          have A7 := Aside0.mk A70
          clear A70
          by_cases c8 : t132 < 0
          · rw [if_pos c8] at H
            have c8b0 : decide (t132 < 0) = true := decide_eq_true c8
            clear c8
            replace H := Option.bind_eq_some_iff.mp H
            obtain ⟨t133, A90, H⟩ := H
            replace H : (some (!t133)) = some r := H
            have A9 := Aside0.mk A90
            clear A90
            obtain rfl := Option.some.inj H
            go_wp2_with (first | (go_at_call 64; (with_reducible refine (strings_IndexByte.calls a0 0 t132 _ A7.out).mono ?_); rintro e w' ⟨rfl, ⟨nd, rfl⟩⟩) | (go_at_call 85; (with_reducible refine (strings_Contains.calls a0 (⟨#[47]⟩ : ByteArray) t133 _ A9.out).mono ?_); rintro e w' ⟨rfl, ⟨nd, rfl⟩⟩))
            go_ret
            exact ⟨by first | rfl | (simp; done) | (simp [*]; done) | (simp; exact (by decide : ∀ p q : Bool, (p == q) = (!(p != q))) _ _) | (simp; exact (by decide : ∀ p q : Bool, (!(p != q)) = (p == q)) _ _), by repeat (first | exact Drawn0.refl _ | apply Drawn0.step)⟩
          · rw [if_neg c8] at H
            have c8b0 : decide (t132 < 0) = false := decide_eq_false c8
            clear c8
            obtain rfl := Option.some.inj H
            go_wp2_with (first | (go_at_call 64; (with_reducible refine (strings_IndexByte.calls a0 0 t132 _ A7.out).mono ?_); rintro e w' ⟨rfl, ⟨nd, rfl⟩⟩))
            go_ret
            exact ⟨by first | rfl | (simp; done) | (simp [*]; done) | (simp; exact (by decide : ∀ p q : Bool, (p == q) = (!(p != q))) _ _) | (simp; exact (by decide : ∀ p q : Bool, (!(p != q)) = (p == q)) _ _), by repeat (first | exact Drawn0.refl _ | apply Drawn0.step)⟩
        · rw [if_neg c6] at H
          have c6b0 : decide ((a0.size : Int) ≤ 64) = false := decide_eq_false c6
          have c6b1 : decide (a0.size ≤ 64) = false := decide_eq_false (by omega)
          clear c6
          obtain rfl := Option.some.inj H
          go_wp2
          go_ret
          exact ⟨by first | rfl | (simp; done) | (simp [*]; done) | (simp; exact (by decide : ∀ p q : Bool, (p == q) = (!(p != q))) _ _) | (simp; exact (by decide : ∀ p q : Bool, (!(p != q)) = (p == q)) _ _), by repeat (first | exact Drawn0.refl _ | apply Drawn0.step)⟩

/-! ### path_is: function 75 -/
def path_is.l0 : Nat → List ByteArray → Int → List ByteArray → Int → Int → Option (Bool)
  | 0, _, _, _, _, _ => none
  | k + 1, x0, x3, x6, x7, x8 => if x8 < x7 then (if 0 ≤ x8 then (if x8 < (x6.length : Int) then ((path_IsName.f k (rdOf ByteArray.empty x6 x8)).bind fun t135 => (if t135 = true then (path_is.l0 k x0 (wrap64 (x3 + (wrap64 (((rdOf ByteArray.empty x6 x8).size : Int) + 1)))) x6 x7 (wrap64 (x8 + 1))) else (some false))) else (none)) else (none)) else (if (x0.length : Int) > 0 then (if (x0.length : Int) ≤ 4096 then (some (decide ((wrap64 (x3 - 1)) ≤ 65536))) else (some false)) else (some false))
def path_is.f (k : Nat) (l0 : List ByteArray) : Option (Bool) := path_is.l0 k l0 0 l0 (l0.length : Int) 0
theorem path_is.mono_l : ∀ k, (∀ y0 y1 y2 y3 y4, LeO (path_is.l0 k y0 y1 y2 y3 y4) (path_is.l0 (k + 1) y0 y1 y2 y3 y4))
  | 0 => fun _ _ _ _ _ r h => by simp [path_is.l0] at h
  | k + 1 => by
    have ih0 := path_is.mono_l k
    · intro y0 y1 y2 y3 y4
      unfold path_is.l0
      repeat' first
      | (with_reducible exact ih0 _ _ _ _ _)
      | (with_reducible exact path_IsName.mono _ _)
      | (with_reducible exact LeO.refl _)
      | (with_reducible exact LeO.none _)
      | (with_reducible refine LeO.ite ?_ ?_)
      | (with_reducible refine LeO.bind ?_ (fun _ => ?_))
      | exact ih0 _ _ _ _ _
      | exact path_IsName.mono _ _
      | exact LeO.none _
      | refine LeO.ite ?_ ?_
      | refine LeO.bind ?_ (fun _ => ?_)
theorem path_is.mono : ∀ a0 k, LeO (path_is.f k a0) (path_is.f (k + 1) a0) := by
  intro a0 k
  have ih0 := path_is.mono_l k
  unfold path_is.f
  repeat' first
      | (with_reducible exact ih0 _ _ _ _ _)
      | (with_reducible exact path_IsName.mono _ _)
      | (with_reducible exact LeO.refl _)
      | (with_reducible exact LeO.none _)
      | (with_reducible refine LeO.ite ?_ ?_)
      | (with_reducible refine LeO.bind ?_ (fun _ => ?_))
      | exact ih0 _ _ _ _ _
      | exact path_IsName.mono _ _
      | exact LeO.none _
      | refine LeO.ite ?_ ?_
      | refine LeO.bind ?_ (fun _ => ?_)
set_option maxHeartbeats 8000000 in
set_option maxRecDepth 100000 in
theorem path_is.calls (k : Nat) (A0 : Option Addr) (c0 : Nat) (l0 : List ByteArray) (r : Bool) (w : World) (hr0 : Kd.C Kd.string w A0 l0.length l0) (hc0 : l0.length ≤ c0) (h : path_is.f k l0 = some r) :
    Calls Tryd.prog 75 #[.slice A0 l0.length c0] w fun e w' => e = .returned (.bool r) ∧ Drawn0 w w' := by
  have HR0 := Aside0.mk hr0
  have HC0 := Aside0.mk hc0
  clear hr0 hc0
  have H : (path_is.l0 k l0 0 l0 (l0.length : Int) 0) = some r := h
  clear h
  have H' := Aside0.mk H
  clear H
  go_enter Tryd.func75, Tryd.ntmps75
  go_wp2
  go_loopg [3, 8] k (fun kq v3 v8 w' => ∃ (x3_1 : Int) (x8_1 : Int), v3 = .int .i64 x3_1 ∧ v8 = .int .i64 x8_1 ∧ Aside0 (path_is.l0 kq l0 x3_1 l0 (l0.length : Int) x8_1 = some r) ∧ Aside0 (kq ≤ k) ∧ Drawn0 w w')
  case atStart => exact ⟨(0), (0), (by first | rfl | (simp; done) | (simp [*]; done) | (simp; exact (by decide : ∀ p q : Bool, (p == q) = (!(p != q))) _ _) | (simp; exact (by decide : ∀ p q : Bool, (!(p != q)) = (p == q)) _ _)), (by first | rfl | (simp; done) | (simp [*]; done) | (simp; exact (by decide : ∀ p q : Bool, (p == q) = (!(p != q))) _ _) | (simp; exact (by decide : ∀ p q : Bool, (!(p != q)) = (p == q)) _ _)), H', ⟨Nat.le_refl _⟩, by repeat (first | exact Drawn0.refl _ | apply Drawn0.step)⟩
  case round =>
    clear H'
    obtain ⟨x3_1, x8_1, rfl, rfl, HA, HK1, ⟨m1, rfl⟩⟩ := hrel
    cases gk with
    | zero => exact absurd HA.out (by simp [path_is.l0])
    | succ k1 =>
      have H := HA.out
      clear HA
      simp only [path_is.l0] at H
      by_cases c2 : x8_1 < (l0.length : Int)
      · rw [if_pos c2] at H
        have c2b0 : decide (x8_1 < (l0.length : Int)) = true := decide_eq_true c2
        clear c2
        by_cases c3 : 0 ≤ x8_1
        · rw [if_pos c3] at H
          have c3b0 : decide (0 ≤ x8_1) = true := decide_eq_true c3
          clear c3
          by_cases c4 : x8_1 < (l0.length : Int)
          · rw [if_pos c4] at H
            have c4b0 : decide (x8_1 < (l0.length : Int)) = true := decide_eq_true c4
            clear c4
            replace H := Option.bind_eq_some_iff.mp H
            obtain ⟨t135, A50, H⟩ := H
            replace H : (if t135 = true then (path_is.l0 k1 l0 (wrap64 (x3_1 + (wrap64 (((rdOf ByteArray.empty l0 x8_1).size : Int) + 1)))) l0 (l0.length : Int) (wrap64 (x8_1 + 1))) else (some false)) = some r := H
            have A5 := Aside0.mk A50
            clear A50
            by_cases c6 : t135 = true
            · subst c6
              have H1 : (path_is.l0 k1 l0 (wrap64 (x3_1 + (wrap64 (((rdOf ByteArray.empty l0 x8_1).size : Int) + 1)))) l0 (l0.length : Int) (wrap64 (x8_1 + 1))) = some r := by rw [if_pos rfl] at H; exact H
              clear H
              have H := H1
              clear H1
              have H' := Aside0.mk H
              clear H
              have p134 : 0 ≤ (x8_1 : Int) := of_decide_eq_true (by first | (with_reducible assumption) | assumption)
              have q134 : x8_1 < (l0.length : Int) := of_decide_eq_true (by first | (with_reducible assumption) | assumption)
              obtain ⟨ad134, e134, hx134_0⟩ := Kd.at_string HR0.out x8_1 p134 q134
              cases e134
              replace p134 := eq_true p134
              replace q134 := eq_true q134
              go_wp2_with (first | ((with_reducible refine gate_callee (f := 82) rfl ?_); refine goesL_ (some 13) rfl rfl Tryd.func82 (by kernel_rfl) rfl #[.string (rdOf ByteArray.empty l0 x8_1)] rfl (by (try simp only [List.map_toArray, List.map_cons, List.map_nil]); first | done | rfl | (simp only [List.length_drop, List.length_take]; rfl)) ?_; (with_reducible refine (path_IsName.calls k1 (rdOf ByteArray.empty l0 x8_1) true _ A5.out).mono ?_); rintro e w' ⟨rfl, ⟨nd, rfl⟩⟩; refine ⟨_, rfl, ?_⟩))
              go_roundg k1
              case measure => have := HK1.out; omega
              case rel => exact ⟨(wrap64 (x3_1 + (wrap64 (((rdOf ByteArray.empty l0 x8_1).size : Int) + 1)))), (wrap64 (x8_1 + 1)), (by first | rfl | (simp; done) | (simp [*]; done) | (simp; exact (by decide : ∀ p q : Bool, (p == q) = (!(p != q))) _ _) | (simp; exact (by decide : ∀ p q : Bool, (!(p != q)) = (p == q)) _ _)), (by first | rfl | (simp; done) | (simp [*]; done) | (simp; exact (by decide : ∀ p q : Bool, (p == q) = (!(p != q))) _ _) | (simp; exact (by decide : ∀ p q : Bool, (!(p != q)) = (p == q)) _ _)), H', ⟨by have := HK1.out; omega⟩, by repeat (first | exact Drawn0.refl _ | apply Drawn0.step)⟩
            · replace c6 := Bool.eq_false_iff.mpr c6
              subst c6
              have H1 : (some false) = some r := by rw [if_neg (show ¬ (false = true) by decide)] at H; exact H
              clear H
              have H := H1
              clear H1
              obtain rfl := Option.some.inj H
              have p134 : 0 ≤ (x8_1 : Int) := of_decide_eq_true (by first | (with_reducible assumption) | assumption)
              have q134 : x8_1 < (l0.length : Int) := of_decide_eq_true (by first | (with_reducible assumption) | assumption)
              obtain ⟨ad134, e134, hx134_0⟩ := Kd.at_string HR0.out x8_1 p134 q134
              cases e134
              replace p134 := eq_true p134
              replace q134 := eq_true q134
              go_wp2_with (first | ((with_reducible refine gate_callee (f := 82) rfl ?_); refine goesL_ (some 13) rfl rfl Tryd.func82 (by kernel_rfl) rfl #[.string (rdOf ByteArray.empty l0 x8_1)] rfl (by (try simp only [List.map_toArray, List.map_cons, List.map_nil]); first | done | rfl | (simp only [List.length_drop, List.length_take]; rfl)) ?_; (with_reducible refine (path_IsName.calls k1 (rdOf ByteArray.empty l0 x8_1) false _ A5.out).mono ?_); rintro e w' ⟨rfl, ⟨nd, rfl⟩⟩; refine ⟨_, rfl, ?_⟩))
              go_ret
              exact ⟨by first | rfl | (simp; done) | (simp [*]; done) | (simp; exact (by decide : ∀ p q : Bool, (p == q) = (!(p != q))) _ _) | (simp; exact (by decide : ∀ p q : Bool, (!(p != q)) = (p == q)) _ _), by repeat (first | exact Drawn0.refl _ | apply Drawn0.step)⟩
          · rw [if_neg c4] at H
            exact absurd H (by simp)
        · rw [if_neg c3] at H
          exact absurd H (by simp)
      · rw [if_neg c2] at H
        have c2b0 : decide (x8_1 < (l0.length : Int)) = false := decide_eq_false c2
        clear c2
        by_cases c7 : (l0.length : Int) > 0
        · rw [if_pos c7] at H
          have c7b0 : decide (0 < (l0.length : Int)) = true := decide_eq_true c7
          have c7b1 : decide (0 < l0.length) = true := decide_eq_true (by omega)
          clear c7
          by_cases c8 : (l0.length : Int) ≤ 4096
          · rw [if_pos c8] at H
            have c8b0 : decide ((l0.length : Int) ≤ 4096) = true := decide_eq_true c8
            have c8b1 : decide (l0.length ≤ 4096) = true := decide_eq_true (by omega)
            clear c8
            obtain rfl := Option.some.inj H
            go_wp2
            go_ret
            exact ⟨by first | rfl | (simp; done) | (simp [*]; done) | (simp; exact (by decide : ∀ p q : Bool, (p == q) = (!(p != q))) _ _) | (simp; exact (by decide : ∀ p q : Bool, (!(p != q)) = (p == q)) _ _), by repeat (first | exact Drawn0.refl _ | apply Drawn0.step)⟩
          · rw [if_neg c8] at H
            have c8b0 : decide ((l0.length : Int) ≤ 4096) = false := decide_eq_false c8
            have c8b1 : decide (l0.length ≤ 4096) = false := decide_eq_false (by omega)
            clear c8
            obtain rfl := Option.some.inj H
            go_wp2
            go_ret
            exact ⟨by first | rfl | (simp; done) | (simp [*]; done) | (simp; exact (by decide : ∀ p q : Bool, (p == q) = (!(p != q))) _ _) | (simp; exact (by decide : ∀ p q : Bool, (!(p != q)) = (p == q)) _ _), by repeat (first | exact Drawn0.refl _ | apply Drawn0.step)⟩
        · rw [if_neg c7] at H
          have c7b0 : decide (0 < (l0.length : Int)) = false := decide_eq_false c7
          have c7b1 : decide (0 < l0.length) = false := decide_eq_false (by omega)
          clear c7
          obtain rfl := Option.some.inj H
          go_wp2
          go_ret
          exact ⟨by first | rfl | (simp; done) | (simp [*]; done) | (simp; exact (by decide : ∀ p q : Bool, (p == q) = (!(p != q))) _ _) | (simp; exact (by decide : ∀ p q : Bool, (!(p != q)) = (p == q)) _ _), by repeat (first | exact Drawn0.refl _ | apply Drawn0.step)⟩

/-! ### path_Split: function 55 -/
def path_Split.f (k : Nat) (a0 : ByteArray) : Option (List ByteArray × Int) := (path_parts.f a0).bind fun t136 => ((path_is.f k t136).bind fun t139 => (if t139 = true then (some (t136, 0)) else (some (([] : List ByteArray), 170))))
theorem path_Split.mono : ∀ a0 k, LeO (path_Split.f k a0) (path_Split.f (k + 1) a0) := by
  intro a0 k
  unfold path_Split.f
  repeat' first
      | (with_reducible exact path_is.mono _ _)
      | (with_reducible exact LeO.refl _)
      | (with_reducible exact LeO.none _)
      | (with_reducible refine LeO.ite ?_ ?_)
      | (with_reducible refine LeO.bind ?_ (fun _ => ?_))
      | exact path_is.mono _ _
      | exact LeO.none _
      | refine LeO.ite ?_ ?_
      | refine LeO.bind ?_ (fun _ => ?_)
set_option maxHeartbeats 8000000 in
set_option maxRecDepth 100000 in
theorem path_Split.calls (k : Nat) (a0 : ByteArray) (r1 : List ByteArray) (r2 : Int) (w : World) (hL : Laid w) (h : path_Split.f k a0 = some (r1, r2)) :
    Calls Tryd.prog 55 #[.string a0] w fun e w' => ∃ v0_ : Value, e = .returned (.tuple #[v0_, .int .i64 r2]) ∧ Kd.R Kd.string 9 w' w.heap.size (fun _ => True) v0_ r1 ∧ Below w.heap.size w w' := by
  have HLAID := Aside0.mk hL
  clear hL
  have HB := Aside0.mk (Below.refl w.heap.size w)
  have H : ((path_parts.f a0).bind fun t136 => ((path_is.f k t136).bind fun t139 => (if t139 = true then (some (t136, 0)) else (some (([] : List ByteArray), 170))))) = some (r1, r2) := h
  clear h
  replace H := Option.bind_eq_some_iff.mp H
  obtain ⟨t136, A20, H⟩ := H
  replace H : ((path_is.f k t136).bind fun t139 => (if t139 = true then (some (t136, 0)) else (some (([] : List ByteArray), 170)))) = some (r1, r2) := H
  have A2 := Aside0.mk A20
  clear A20
  replace H := Option.bind_eq_some_iff.mp H
  obtain ⟨t139, A30, H⟩ := H
  replace H : (if t139 = true then (some (t136, 0)) else (some (([] : List ByteArray), 170))) = some (r1, r2) := H
  have A3 := Aside0.mk A30
  clear A30
  by_cases c4 : t139 = true
  · subst c4
    have H1 : (some (t136, 0)) = some (r1, r2) := by rw [if_pos rfl] at H; exact H
    clear H
    have H := H1
    clear H1
    simp only [Option.some.injEq, Prod.mk.injEq] at H
    obtain ⟨rfl, rfl⟩ := H
    go_enter Tryd.func55, Tryd.ntmps55
    go_wp2_with (first | ((with_reducible refine gate_callee (f := 56) rfl ?_); refine goesL_ (some 6) rfl rfl Tryd.func56 (by kernel_rfl) rfl #[.string a0] rfl (by (try simp only [List.map_toArray, List.map_cons, List.map_nil]); first | done | rfl | (simp only [List.length_drop, List.length_take]; rfl)) ?_; (with_reducible refine (path_parts.calls a0 t136 _ ?side1 A2.out).mono ?_); (case side1 => first | exact HLAID.out | exact Laid.drewN HLAID.out _ | exact Laid.below HLAID.out (by repeat (first | (with_reducible first | exact HB.out | apply below_alloc | apply pw_below_drewN | apply below_drew1) | exact HB.out))); rintro e w5 ⟨v137, rfl, ho0, hb⟩; refine ⟨_, rfl, ?_⟩; have n0_ := Aside0.mk (Kd.R_lower ho0 (below_size (by repeat (first | (with_reducible first | exact HB.out | apply below_alloc | apply pw_below_drewN | apply below_drew1) | exact HB.out)))); have n1_ := Aside0.mk (below_step (by repeat (first | (with_reducible first | exact HB.out | apply below_alloc | apply pw_below_drewN | apply below_drew1) | exact HB.out)) hb); clear HB; have HO138 := n0_; have HB := n1_; clear n0_ n1_; (try clear hb); (try clear hb2); (try clear hk); (try clear hi); (try clear ho0); obtain ⟨Ao6, co6, eo6⟩ := Kd.R_slice HO138.out; subst eo6) | ((with_reducible refine gate_callee (f := 75) rfl ?_); refine goesL_ (some 8) rfl rfl Tryd.func75 (by kernel_rfl) rfl #[.slice Ao6 t136.length co6] rfl (by (try simp only [List.map_toArray, List.map_cons, List.map_nil]); first | done | rfl | (simp only [List.length_drop, List.length_take]; rfl)) ?_; (with_reducible refine (path_is.calls k _ _ t136 true _ ?side1 ?side2 A3.out).mono ?_); (case side1 => repeat (first | exact (Kd.R_reads' HO138.out).2.2 | (with_reducible refine Kd.C_alloc ?_ _) | (with_reducible refine Kd.C_drewN ?_ _) | (with_reducible refine Kd.C_drew ?_))); (case side2 => exact (Kd.R_reads' HO138.out).2.1); rintro e w' ⟨rfl, ⟨nd, rfl⟩⟩; refine ⟨_, rfl, ?_⟩))
    go_ret2
    exact ⟨_, by first | rfl | (simp [errW_none, errW_some] <;> rfl) | (simp [*, errW_none, errW_some] <;> rfl), by (with_reducible repeat (first | apply Kd.R_alloc | apply Kd.R_drewN | apply Kd.R_drew)); exact HO138.out, by repeat (first | (with_reducible first | exact HB.out | apply below_alloc | apply pw_below_drewN | apply below_drew1) | exact HB.out)⟩
  · replace c4 := Bool.eq_false_iff.mpr c4
    subst c4
    have H1 : (some (([] : List ByteArray), 170)) = some (r1, r2) := by rw [if_neg (show ¬ (false = true) by decide)] at H; exact H
    clear H
    have H := H1
    clear H1
    simp only [Option.some.injEq, Prod.mk.injEq] at H
    obtain ⟨rfl, rfl⟩ := H
    go_enter Tryd.func55, Tryd.ntmps55
    go_wp2_with (first | ((with_reducible refine gate_callee (f := 56) rfl ?_); refine goesL_ (some 6) rfl rfl Tryd.func56 (by kernel_rfl) rfl #[.string a0] rfl (by (try simp only [List.map_toArray, List.map_cons, List.map_nil]); first | done | rfl | (simp only [List.length_drop, List.length_take]; rfl)) ?_; (with_reducible refine (path_parts.calls a0 t136 _ ?side1 A2.out).mono ?_); (case side1 => first | exact HLAID.out | exact Laid.drewN HLAID.out _ | exact Laid.below HLAID.out (by repeat (first | (with_reducible first | exact HB.out | apply below_alloc | apply pw_below_drewN | apply below_drew1) | exact HB.out))); rintro e w7 ⟨v137, rfl, ho0, hb⟩; refine ⟨_, rfl, ?_⟩; have n0_ := Aside0.mk (Kd.R_lower ho0 (below_size (by repeat (first | (with_reducible first | exact HB.out | apply below_alloc | apply pw_below_drewN | apply below_drew1) | exact HB.out)))); have n1_ := Aside0.mk (below_step (by repeat (first | (with_reducible first | exact HB.out | apply below_alloc | apply pw_below_drewN | apply below_drew1) | exact HB.out)) hb); clear HB; have HO138 := n0_; have HB := n1_; clear n0_ n1_; (try clear hb); (try clear hb2); (try clear hk); (try clear hi); (try clear ho0); obtain ⟨Ao8, co8, eo8⟩ := Kd.R_slice HO138.out; subst eo8) | ((with_reducible refine gate_callee (f := 75) rfl ?_); refine goesL_ (some 8) rfl rfl Tryd.func75 (by kernel_rfl) rfl #[.slice Ao8 t136.length co8] rfl (by (try simp only [List.map_toArray, List.map_cons, List.map_nil]); first | done | rfl | (simp only [List.length_drop, List.length_take]; rfl)) ?_; (with_reducible refine (path_is.calls k _ _ t136 false _ ?side1 ?side2 A3.out).mono ?_); (case side1 => repeat (first | exact (Kd.R_reads' HO138.out).2.2 | (with_reducible refine Kd.C_alloc ?_ _) | (with_reducible refine Kd.C_drewN ?_ _) | (with_reducible refine Kd.C_drew ?_))); (case side2 => exact (Kd.R_reads' HO138.out).2.1); rintro e w' ⟨rfl, ⟨nd, rfl⟩⟩; refine ⟨_, rfl, ?_⟩))
    go_ret2
    exact ⟨_, by first | rfl | (simp [errW_none, errW_some] <;> rfl) | (simp [*, errW_none, errW_some] <;> rfl), by first | exact Kd.R_nil _ _ _ _ _ | exact Kd.N_nil _ _ _ _ _ | exact Kd.V_nil _ _ _ _ _ | exact Kd.Q_nil _ _ _ _ _ | exact Kd.S_nil _ _ _ _ _, by repeat (first | (with_reducible first | exact HB.out | apply below_alloc | apply pw_below_drewN | apply below_drew1) | exact HB.out)⟩

/-! ### snap_isPath: function 22 -/
def snap_isPath.f (k : Nat) (a0 : ByteArray) : Option (Bool) := (path_Split.f k a0).bind fun bt140 => (some (bt140.2 == 0))
theorem snap_isPath.mono : ∀ a0 k, LeO (snap_isPath.f k a0) (snap_isPath.f (k + 1) a0) := by
  intro a0 k
  unfold snap_isPath.f
  repeat' first
      | (with_reducible exact path_Split.mono _ _)
      | (with_reducible exact LeO.refl _)
      | (with_reducible exact LeO.none _)
      | (with_reducible refine LeO.ite ?_ ?_)
      | (with_reducible refine LeO.bind ?_ (fun _ => ?_))
      | exact path_Split.mono _ _
      | exact LeO.none _
      | refine LeO.ite ?_ ?_
      | refine LeO.bind ?_ (fun _ => ?_)
set_option maxHeartbeats 8000000 in
set_option maxRecDepth 100000 in
theorem snap_isPath.calls (k : Nat) (a0 : ByteArray) (r : Bool) (w : World) (hL : Laid w) (h : snap_isPath.f k a0 = some r) :
    Calls Tryd.prog 22 #[.string a0] w fun e w' => e = .returned (.bool r) ∧ Below w.heap.size w w' := by
  have HLAID := Aside0.mk hL
  clear hL
  have HB := Aside0.mk (Below.refl w.heap.size w)
  have H : ((path_Split.f k a0).bind fun bt140 => (some (bt140.2 == 0))) = some r := h
  clear h
  replace H := Option.bind_eq_some_iff.mp H
  obtain ⟨⟨t140, t141⟩, A20, H⟩ := H
  replace H : (some (t141 == 0)) = some r := H
  have A2 := Aside0.mk A20
  clear A20
  obtain rfl := Option.some.inj H
  go_enter Tryd.func22, Tryd.ntmps22
  go_wp2_with (first | ((with_reducible refine gate_callee (f := 55) rfl ?_); refine goesL_ (some 7) rfl rfl Tryd.func55 (by kernel_rfl) rfl #[.string a0] rfl (by (try simp only [List.map_toArray, List.map_cons, List.map_nil]); first | done | rfl | (simp only [List.length_drop, List.length_take]; rfl)) ?_; (with_reducible refine (path_Split.calls k a0 t140 t141 _ ?side1 A2.out).mono ?_); (case side1 => first | exact HLAID.out | exact Laid.drewN HLAID.out _ | exact Laid.below HLAID.out (by repeat (first | (with_reducible first | exact HB.out | apply below_alloc | apply pw_below_drewN | apply below_drew1) | exact HB.out))); rintro e w3 ⟨v142, rfl, ho0, hb⟩; refine ⟨_, rfl, ?_⟩; have n0_ := Aside0.mk (Kd.R_lower ho0 (below_size (by repeat (first | (with_reducible first | exact HB.out | apply below_alloc | apply pw_below_drewN | apply below_drew1) | exact HB.out)))); have n1_ := Aside0.mk (below_step (by repeat (first | (with_reducible first | exact HB.out | apply below_alloc | apply pw_below_drewN | apply below_drew1) | exact HB.out)) hb); clear HB; have HO143 := n0_; have HB := n1_; clear n0_ n1_; (try clear hb); (try clear hb2); (try clear hk); (try clear hi); (try clear ho0)))
  go_ret
  exact ⟨by first | rfl | (simp [errW_none, errW_some] <;> rfl) | (simp [*, errW_none, errW_some] <;> rfl), by repeat (first | (with_reducible first | exact HB.out | apply below_alloc | apply pw_below_drewN | apply below_drew1) | exact HB.out)⟩

/-! ### path_Less: function 23 -/
def path_Less.f (k : Nat) (a0 : ByteArray) (a1 : ByteArray) : Option (Bool) := (path_parts.f a0).bind fun t144 => ((path_parts.f a1).bind fun t147 => ((slices_Compare_string_string.f k t144 t147).bind fun t150 => (some (decide (t150 < 0)))))
theorem path_Less.mono : ∀ a0 a1 k, LeO (path_Less.f k a0 a1) (path_Less.f (k + 1) a0 a1) := by
  intro a0 a1 k
  unfold path_Less.f
  repeat' first
      | (with_reducible exact slices_Compare_string_string.mono _ _ _)
      | (with_reducible exact LeO.refl _)
      | (with_reducible exact LeO.none _)
      | (with_reducible refine LeO.ite ?_ ?_)
      | (with_reducible refine LeO.bind ?_ (fun _ => ?_))
      | exact slices_Compare_string_string.mono _ _ _
      | exact LeO.none _
      | refine LeO.ite ?_ ?_
      | refine LeO.bind ?_ (fun _ => ?_)
set_option maxHeartbeats 8000000 in
set_option maxRecDepth 100000 in
theorem path_Less.calls (k : Nat) (a0 : ByteArray) (a1 : ByteArray) (r : Bool) (w : World) (hL : Laid w) (h : path_Less.f k a0 a1 = some r) :
    Calls Tryd.prog 23 #[.string a0, .string a1] w fun e w' => e = .returned (.bool r) ∧ Below w.heap.size w w' := by
  have HLAID := Aside0.mk hL
  clear hL
  have HB := Aside0.mk (Below.refl w.heap.size w)
  have H : ((path_parts.f a0).bind fun t144 => ((path_parts.f a1).bind fun t147 => ((slices_Compare_string_string.f k t144 t147).bind fun t150 => (some (decide (t150 < 0)))))) = some r := h
  clear h
  replace H := Option.bind_eq_some_iff.mp H
  obtain ⟨t144, A30, H⟩ := H
  replace H : ((path_parts.f a1).bind fun t147 => ((slices_Compare_string_string.f k t144 t147).bind fun t150 => (some (decide (t150 < 0))))) = some r := H
  have A3 := Aside0.mk A30
  clear A30
  replace H := Option.bind_eq_some_iff.mp H
  obtain ⟨t147, A40, H⟩ := H
  replace H : ((slices_Compare_string_string.f k t144 t147).bind fun t150 => (some (decide (t150 < 0)))) = some r := H
  have A4 := Aside0.mk A40
  clear A40
  replace H := Option.bind_eq_some_iff.mp H
  obtain ⟨t150, A50, H⟩ := H
  replace H : (some (decide (t150 < 0))) = some r := H
  have A5 := Aside0.mk A50
  clear A50
  obtain rfl := Option.some.inj H
  go_enter Tryd.func23, Tryd.ntmps23
  go_wp2_with (first | ((with_reducible refine gate_callee (f := 56) rfl ?_); refine goesL_ (some 6) rfl rfl Tryd.func56 (by kernel_rfl) rfl #[.string a0] rfl (by (try simp only [List.map_toArray, List.map_cons, List.map_nil]); first | done | rfl | (simp only [List.length_drop, List.length_take]; rfl)) ?_; (with_reducible refine (path_parts.calls a0 t144 _ ?side1 A3.out).mono ?_); (case side1 => first | exact HLAID.out | exact Laid.drewN HLAID.out _ | exact Laid.below HLAID.out (by repeat (first | (with_reducible first | exact HB.out | apply below_alloc | apply pw_below_drewN | apply below_drew1) | exact HB.out))); rintro e w6 ⟨v145, rfl, ho0, hb⟩; refine ⟨_, rfl, ?_⟩; have n0_ := Aside0.mk (Kd.R_lower ho0 (below_size (by repeat (first | (with_reducible first | exact HB.out | apply below_alloc | apply pw_below_drewN | apply below_drew1) | exact HB.out)))); have n1_ := Aside0.mk (below_step (by repeat (first | (with_reducible first | exact HB.out | apply below_alloc | apply pw_below_drewN | apply below_drew1) | exact HB.out)) hb); clear HB; have HO146 := n0_; have HB := n1_; clear n0_ n1_; (try clear hb); (try clear hb2); (try clear hk); (try clear hi); (try clear ho0)) | ((with_reducible refine gate_callee (f := 56) rfl ?_); refine goesL_ (some 8) rfl rfl Tryd.func56 (by kernel_rfl) rfl #[.string a1] rfl (by (try simp only [List.map_toArray, List.map_cons, List.map_nil]); first | done | rfl | (simp only [List.length_drop, List.length_take]; rfl)) ?_; (with_reducible refine (path_parts.calls a1 t147 _ ?side1 A4.out).mono ?_); (case side1 => first | exact HLAID.out | exact Laid.drewN HLAID.out _ | exact Laid.below HLAID.out (by repeat (first | (with_reducible first | exact HB.out | apply below_alloc | apply pw_below_drewN | apply below_drew1) | exact HB.out))); rintro e w7 ⟨v148, rfl, ho0, hb⟩; refine ⟨_, rfl, ?_⟩; have n0_ := Aside0.mk (Kd.R_elder' (by (with_reducible repeat (first | apply Kd.R_alloc | apply Kd.R_drewN | apply Kd.R_drew)); exact HO146.out) (Kd.R_base ho0) hb); have n1_ := Aside0.mk (Kd.R_lower (Kd.R_new' ho0 (Kd.R_lt (by (with_reducible repeat (first | apply Kd.R_alloc | apply Kd.R_drewN | apply Kd.R_drew)); exact HO146.out))) (below_size (by repeat (first | (with_reducible first | exact HB.out | apply below_alloc | apply pw_below_drewN | apply below_drew1) | exact HB.out)))); have n2_ := Aside0.mk (below_step (by repeat (first | (with_reducible first | exact HB.out | apply below_alloc | apply pw_below_drewN | apply below_drew1) | exact HB.out)) hb); clear HO146; clear HB; have HO146 := n0_; have HO149 := n1_; have HB := n2_; clear n0_ n1_ n2_; (try clear hb); (try clear hb2); (try clear hk); (try clear hi); (try clear ho0); obtain ⟨Ao8, co8, eo8⟩ := Kd.R_slice HO146.out; subst eo8; obtain ⟨Ao9, co9, eo9⟩ := Kd.R_slice HO149.out; subst eo9) | ((with_reducible refine gate_callee (f := 54) rfl ?_); refine goesL_ (some 9) rfl rfl Tryd.func54 (by kernel_rfl) rfl #[.slice Ao8 t144.length co8, .slice Ao9 t147.length co9] rfl (by (try simp only [List.map_toArray, List.map_cons, List.map_nil]); first | done | rfl | (simp only [List.length_drop, List.length_take]; rfl)) ?_; (with_reducible refine (slices_Compare_string_string.calls k _ _ t144 _ _ t147 t150 _ ?side1 ?side2 ?side3 ?side4 A5.out).mono ?_); (case side1 => repeat (first | exact (Kd.R_reads' HO146.out).2.2 | (with_reducible refine Kd.C_alloc ?_ _) | (with_reducible refine Kd.C_drewN ?_ _) | (with_reducible refine Kd.C_drew ?_))); (case side2 => exact (Kd.R_reads' HO146.out).2.1); (case side3 => repeat (first | exact (Kd.R_reads' HO149.out).2.2 | (with_reducible refine Kd.C_alloc ?_ _) | (with_reducible refine Kd.C_drewN ?_ _) | (with_reducible refine Kd.C_drew ?_))); (case side4 => exact (Kd.R_reads' HO149.out).2.1); rintro e w' ⟨rfl, ⟨nd, rfl⟩⟩; refine ⟨_, rfl, ?_⟩))
  go_ret
  exact ⟨by first | rfl | (simp [errW_none, errW_some] <;> rfl) | (simp [*, errW_none, errW_some] <;> rfl), by repeat (first | (with_reducible first | exact HB.out | apply below_alloc | apply pw_below_drewN | apply below_drew1) | exact HB.out)⟩

/-! ### snap_word: function 27, by hand -/
def snap_word.vis (l : List UInt8) : Bool := l.all fun c => decide (32 < c.toNat) && decide (c.toNat < 127)
def snap_word.f (a0 : ByteArray) (a1 : Int) : Option Bool := if a0.size ≤ 140737488351232 then some (snap_word.vis a0.data.toList && (decide (a0.data.toList ≠ []) && decide ((a0.size : Int) ≤ a1))) else none
set_option maxHeartbeats 1000000 in
set_option maxRecDepth 100000 in
theorem snap_word.calls (a0 : ByteArray) (a1 : Int) (r : Bool) (w : World) (h : snap_word.f a0 a1 = some r) :
    Calls Tryd.prog 27 #[.string a0, .int .i64 a1] w fun e w' => e = .returned (.bool r) ∧ Below w.heap.size w w' := by
  unfold snap_word.f at h
  by_cases hz : a0.size ≤ 140737488351232
  · rw [if_pos hz] at h
    have HR := Aside0.mk (Option.some.inj h)
    have HZ := Aside0.mk hz
    have HLN : Aside0 (a0.data.toList.length = a0.size) := ⟨data_length a0⟩
    have HL : Aside0 (a0.toList = a0.data.toList) := ⟨ByteArray.toList_eq a0⟩
    have kb := fun W => print_bytes (P := Tryd.prog) 9 66 5 Tryd.underlying9 Tryd.underlying66 Tryd.underlying5 a0 W
    clear h hz
    go_enter Tryd.func27, Tryd.ntmps27
    go_wp2
    have HB1 := Aside0.mk (bytes_below (Below.refl w.heap.size w) (Nat.le_refl _) 5 a0)
    have HC1 : Aside0 (∀ j, j < a0.size → (Lib.bytesWorld w 5 a0).cell? ⟨w.heap.size, j, none⟩ = some (.int .u8 ((((a0.data.toList.getD j 0)).toNat : Nat) : Int))) := ⟨fun j hj => by
      obtain ⟨ad, e, hx⟩ := (bytes_reads w 5 a0 (by have := HZ.out; omega)).2.2 (by omega)
      cases e
      have h2 := hx j hj
      rw [add_plain] at h2
      rw [h2]
      congr 2
      exact Sha.bl_at a0.data.toList j⟩
    clear kb
    generalize Lib.bytesWorld w 5 a0 = W3 at *
    generalize grownCap w a0.size 0 5 = cap at *
    have HN : Aside0 (∃ n, n = a0.size) := ⟨⟨_, rfl⟩⟩
    obtain ⟨n, hn⟩ := HN.out
    have HN2 := Aside0.mk hn
    rw [← hn] at HC1 ⊢
    clear HN hn
    go_loopw [10] (fun v10 w' => ∃ (i : Nat), i ≤ n ∧ v10 = .int .i64 (i : Int) ∧ Aside0 (snap_word.vis (a0.data.toList.take i) = true) ∧ Aside0 (∀ j, j < n → w'.cell? ⟨w.heap.size, j, none⟩ = some (.int .u8 ((((a0.data.toList.getD j 0)).toNat : Nat) : Int))) ∧ Aside0 (Below w.heap.size w w')) (fun v10 _ => n - (intOf v10).toNat)
    case atStart => exact ⟨0, Nat.zero_le _, rfl, ⟨rfl⟩, HC1, HB1⟩
    case round =>
      clear HC1 HB1
      obtain ⟨i, hi, rfl, HV, HC, HB⟩ := hrel
      by_cases hlt : i < n
      · have d1 : decide ((i : Int) < (n : Int)) = true := decide_eq_true (by omega)
        have p1 : (i : Int) < (n : Int) := by omega
        have p0 : 0 ≤ (i : Int) := by omega
        have hx := HC.out i hlt
        have hl : i < a0.data.toList.length := by rw [HLN.out, ← HN2.out]; exact hlt
        have HTK := Aside0.mk (show snap_word.vis (a0.data.toList.take (i + 1)) = (snap_word.vis (a0.data.toList.take i) && (decide (32 < (a0.data.toList.getD i 0).toNat) && decide ((a0.data.toList.getD i 0).toNat < 127))) by
          rw [List.take_succ_eq_append_getElem hl, List.getD_eq_getElem?_getD, List.getElem?_eq_getElem hl]
          simp [snap_word.vis])
        have HIN := Aside0.mk (show a0.data.toList.getD i 0 ∈ a0.data.toList by rw [List.getD_eq_getElem?_getD, List.getElem?_eq_getElem hl]; exact List.getElem_mem hl)
        have HI := Aside0.mk (show i + 1 ≤ n by omega)
        have QI := Aside0.mk (show wrap64 ((i : Int) + 1) = ((i + 1 : Nat) : Int) by have := HZ.out; have := HN2.out; unfold wrap64; omega)
        clear hlt hi hl
        generalize a0.data.toList.getD i 0 = c at *
        by_cases c1 : c.toNat ≤ 32
        · have e1 : decide (((c.toNat : Nat) : Int) ≤ 32) = true := decide_eq_true (by omega)
          have HC1 := Aside0.mk c1
          clear c1
          go_wp2
          repeat (go_quiet (fail); try go_wp2)
          go_ret
          have hv : snap_word.vis a0.data.toList = false := by
            rw [← Bool.not_eq_true]
            intro e
            have h2 := List.all_eq_true.1 e c HIN.out
            have h3 := HC1.out
            rw [Bool.and_eq_true, decide_eq_true_eq] at h2
            omega
          have h4 := HR.out
          rw [hv, Bool.false_and] at h4
          rw [← h4]
          exact ⟨rfl, by repeat (first | exact HB.out | (with_reducible apply pw_below_drewN) | (with_reducible apply below_drew1))⟩
        · have e1 : decide (((c.toNat : Nat) : Int) ≤ 32) = false := decide_eq_false (by omega)
          have HC1 := Aside0.mk c1
          clear c1
          by_cases c2 : 127 ≤ c.toNat
          · have e2 : decide (127 ≤ ((c.toNat : Nat) : Int)) = true := decide_eq_true (by omega)
            have HC2 := Aside0.mk c2
            clear c2
            go_wp2
            repeat (go_quiet (fail); try go_wp2)
            go_ret
            have hv : snap_word.vis a0.data.toList = false := by
              rw [← Bool.not_eq_true]
              intro e
              have h2 := List.all_eq_true.1 e c HIN.out
              have h3 := HC2.out
              rw [Bool.and_eq_true, decide_eq_true_eq, decide_eq_true_eq] at h2
              omega
            have h4 := HR.out
            rw [hv, Bool.false_and] at h4
            rw [← h4]
            exact ⟨rfl, by repeat (first | exact HB.out | (with_reducible apply pw_below_drewN) | (with_reducible apply below_drew1))⟩
          · have e2 : decide (127 ≤ ((c.toNat : Nat) : Int)) = false := decide_eq_false (by omega)
            have HC2 := Aside0.mk c2
            clear c2
            go_wp2
            repeat (go_quiet (fail); try go_wp2)
            rw [QI.out]
            refine ⟨?_, by simp [intOf]; have := HI.out; omega⟩
            refine ⟨i + 1, HI.out, rfl, ⟨?_⟩, HC, ⟨by repeat (first | exact HB.out | (with_reducible apply pw_below_drewN) | (with_reducible apply below_drew1))⟩⟩
            rw [HTK.out, HV.out, Bool.true_and, Bool.and_eq_true, decide_eq_true_eq, decide_eq_true_eq]
            have h1 := HC1.out
            have h2 := HC2.out
            omega
      · obtain rfl : i = n := by omega
        have d1 : decide ((i : Int) < (i : Int)) = false := decide_eq_false (by omega)
        have hall : a0.data.toList.take i = a0.data.toList := List.take_of_length_le (by rw [HLN.out, HN2.out]; exact Nat.le_refl _)
        rw [hall] at HV
        have h4 := HR.out
        rw [HV.out, Bool.true_and] at h4
        have HR2 := Aside0.mk h4
        clear hall hi hlt h4
        by_cases c1 : a0.data.toList = []
        · have e1 : (a0.toList == ([] : List UInt8)) = true := by rw [HL.out]; exact beq_iff_eq.2 c1
          have e2 : (a0.toList != ([] : List UInt8)) = false := by rw [bne, e1]; rfl
          have HC1 := Aside0.mk c1
          clear c1
          go_wp2
          repeat (go_quiet (fail); try go_wp2)
          go_ret
          have h4 := HR2.out
          rw [decide_eq_false (fun h => h HC1.out), Bool.false_and] at h4
          rw [← h4]
          exact ⟨rfl, by repeat (first | exact HB.out | (with_reducible apply pw_below_drewN) | (with_reducible apply below_drew1))⟩
        · have e1 : (a0.toList == ([] : List UInt8)) = false := by rw [HL.out]; exact beq_eq_false_iff_ne.2 c1
          have e2 : (a0.toList != ([] : List UInt8)) = true := by rw [bne, e1]; rfl
          have HC1 := Aside0.mk c1
          clear c1
          go_wp2
          repeat (go_quiet (fail); try go_wp2)
          go_ret
          have h4 := HR2.out
          rw [decide_eq_true (show ¬ a0.data.toList = [] from HC1.out), Bool.true_and] at h4
          rw [← h4]
          exact ⟨rfl, by repeat (first | exact HB.out | (with_reducible apply pw_below_drewN) | (with_reducible apply below_drew1))⟩
  · rw [if_neg hz] at h
    cases h

/-! ### snap_isTag: function 24 -/
def snap_isTag.f (a0 : ByteArray) : Option (Bool) := (snap_word.f a0 32).bind fun t151 => (some t151)
set_option maxHeartbeats 8000000 in
set_option maxRecDepth 100000 in
theorem snap_isTag.calls (a0 : ByteArray) (r : Bool) (w : World) (h : snap_isTag.f a0 = some r) :
    Calls Tryd.prog 24 #[.string a0] w fun e w' => e = .returned (.bool r) ∧ Below w.heap.size w w' := by
  have HB := Aside0.mk (Below.refl w.heap.size w)
  have H : ((snap_word.f a0 32).bind fun t151 => (some t151)) = some r := h
  clear h
  replace H := Option.bind_eq_some_iff.mp H
  obtain ⟨t151, A20, H⟩ := H
  replace H : (some t151) = some r := H
  have A2 := Aside0.mk A20
  clear A20
  obtain rfl := Option.some.inj H
  go_enter Tryd.func24, Tryd.ntmps24
  go_wp2_with (first | ((with_reducible refine gate_callee (f := 27) rfl ?_); refine goesL_ (some 4) rfl rfl Tryd.func27 (by kernel_rfl) rfl #[.string a0, .int .i64 32] rfl (by (try simp only [List.map_toArray, List.map_cons, List.map_nil]); first | done | rfl | (simp only [List.length_drop, List.length_take]; rfl)) ?_; (with_reducible refine (snap_word.calls a0 32 t151 _ A2.out).mono ?_); rintro e w3 ⟨rfl, hb⟩; refine ⟨_, rfl, ?_⟩; have n0_ := Aside0.mk (below_step (by repeat (first | (with_reducible first | exact HB.out | apply below_alloc | apply pw_below_drewN | apply below_drew1) | exact HB.out)) hb); clear HB; have HB := n0_; clear n0_; (try clear hb); (try clear hb2); (try clear hk); (try clear hi)))
  go_ret
  exact ⟨by first | rfl | (simp [errW_none, errW_some] <;> rfl) | (simp [*, errW_none, errW_some] <;> rfl), by repeat (first | (with_reducible first | exact HB.out | apply below_alloc | apply pw_below_drewN | apply below_drew1) | exact HB.out)⟩

/-! ### cmp_isNaN_string: function 57 -/
def cmp_isNaN_string.f (a0 : ByteArray) : Option (Bool) := some (a0.toList != a0.toList)
set_option maxHeartbeats 8000000 in
set_option maxRecDepth 100000 in
theorem cmp_isNaN_string.calls (a0 : ByteArray) (r : Bool) (w : World) (h : cmp_isNaN_string.f a0 = some r) :
    Calls Tryd.prog 57 #[.string a0] w fun e w' => e = .returned (.bool r) ∧ Drawn0 w w' := by
  have H : (some (a0.toList != a0.toList)) = some r := h
  clear h
  obtain rfl := Option.some.inj H
  go_enter Tryd.func57, Tryd.ntmps57
  go_wp2
  go_ret
  exact ⟨by first | rfl | (simp; done) | (simp [*]; done) | (simp; exact (by decide : ∀ p q : Bool, (p == q) = (!(p != q))) _ _) | (simp; exact (by decide : ∀ p q : Bool, (!(p != q)) = (p == q)) _ _), by repeat (first | exact Drawn0.refl _ | apply Drawn0.step)⟩

/-! ### cmp_Less_string: function 25 -/
def cmp_Less_string.f (a0 : ByteArray) (a1 : ByteArray) : Option (Bool) := (cmp_isNaN_string.f a0).bind fun t152 => (if t152 = true then ((cmp_isNaN_string.f a1).bind fun t153 => (if t153 = true then (some (Op.bytesLess a0.toList a1.toList)) else (some true))) else (some (Op.bytesLess a0.toList a1.toList)))
set_option maxHeartbeats 8000000 in
set_option maxRecDepth 100000 in
theorem cmp_Less_string.calls (a0 : ByteArray) (a1 : ByteArray) (r : Bool) (w : World) (h : cmp_Less_string.f a0 a1 = some r) :
    Calls Tryd.prog 25 #[.string a0, .string a1] w fun e w' => e = .returned (.bool r) ∧ Drawn0 w w' := by
  have H : ((cmp_isNaN_string.f a0).bind fun t152 => (if t152 = true then ((cmp_isNaN_string.f a1).bind fun t153 => (if t153 = true then (some (Op.bytesLess a0.toList a1.toList)) else (some true))) else (some (Op.bytesLess a0.toList a1.toList)))) = some r := h
  clear h
  replace H := Option.bind_eq_some_iff.mp H
  obtain ⟨t152, A30, H⟩ := H
  replace H : (if t152 = true then ((cmp_isNaN_string.f a1).bind fun t153 => (if t153 = true then (some (Op.bytesLess a0.toList a1.toList)) else (some true))) else (some (Op.bytesLess a0.toList a1.toList))) = some r := H
  have A3 := Aside0.mk A30
  clear A30
  by_cases c4 : t152 = true
  · subst c4
    have H1 : ((cmp_isNaN_string.f a1).bind fun t153 => (if t153 = true then (some (Op.bytesLess a0.toList a1.toList)) else (some true))) = some r := by rw [if_pos rfl] at H; exact H
    clear H
    have H := H1
    clear H1
    replace H := Option.bind_eq_some_iff.mp H
    obtain ⟨t153, A50, H⟩ := H
    replace H : (if t153 = true then (some (Op.bytesLess a0.toList a1.toList)) else (some true)) = some r := H
    have A5 := Aside0.mk A50
    clear A50
    by_cases c6 : t153 = true
    · subst c6
      have H1 : (some (Op.bytesLess a0.toList a1.toList)) = some r := by rw [if_pos rfl] at H; exact H
      clear H
      have H := H1
      clear H1
      obtain rfl := Option.some.inj H
      go_enter Tryd.func25, Tryd.ntmps25
      go_wp2_with (first | ((with_reducible refine gate_callee (f := 57) rfl ?_); refine goesL_ (some 6) rfl rfl Tryd.func57 (by kernel_rfl) rfl #[.string a0] rfl (by (try simp only [List.map_toArray, List.map_cons, List.map_nil]); first | done | rfl | (simp only [List.length_drop, List.length_take]; rfl)) ?_; (with_reducible refine (cmp_isNaN_string.calls a0 true _ A3.out).mono ?_); rintro e w' ⟨rfl, ⟨nd, rfl⟩⟩; refine ⟨_, rfl, ?_⟩) | (go_at_call 57; (with_reducible refine (cmp_isNaN_string.calls a1 true _ A5.out).mono ?_); rintro e w' ⟨rfl, ⟨nd, rfl⟩⟩))
      go_ret
      exact ⟨by first | rfl | (simp; done) | (simp [*]; done) | (simp; exact (by decide : ∀ p q : Bool, (p == q) = (!(p != q))) _ _) | (simp; exact (by decide : ∀ p q : Bool, (!(p != q)) = (p == q)) _ _), by repeat (first | exact Drawn0.refl _ | apply Drawn0.step)⟩
    · replace c6 := Bool.eq_false_iff.mpr c6
      subst c6
      have H1 : (some true) = some r := by rw [if_neg (show ¬ (false = true) by decide)] at H; exact H
      clear H
      have H := H1
      clear H1
      obtain rfl := Option.some.inj H
      go_enter Tryd.func25, Tryd.ntmps25
      go_wp2_with (first | ((with_reducible refine gate_callee (f := 57) rfl ?_); refine goesL_ (some 6) rfl rfl Tryd.func57 (by kernel_rfl) rfl #[.string a0] rfl (by (try simp only [List.map_toArray, List.map_cons, List.map_nil]); first | done | rfl | (simp only [List.length_drop, List.length_take]; rfl)) ?_; (with_reducible refine (cmp_isNaN_string.calls a0 true _ A3.out).mono ?_); rintro e w' ⟨rfl, ⟨nd, rfl⟩⟩; refine ⟨_, rfl, ?_⟩) | (go_at_call 57; (with_reducible refine (cmp_isNaN_string.calls a1 false _ A5.out).mono ?_); rintro e w' ⟨rfl, ⟨nd, rfl⟩⟩))
      go_ret
      exact ⟨by first | rfl | (simp; done) | (simp [*]; done) | (simp; exact (by decide : ∀ p q : Bool, (p == q) = (!(p != q))) _ _) | (simp; exact (by decide : ∀ p q : Bool, (!(p != q)) = (p == q)) _ _), by repeat (first | exact Drawn0.refl _ | apply Drawn0.step)⟩
  · replace c4 := Bool.eq_false_iff.mpr c4
    subst c4
    have H1 : (some (Op.bytesLess a0.toList a1.toList)) = some r := by rw [if_neg (show ¬ (false = true) by decide)] at H; exact H
    clear H
    have H := H1
    clear H1
    obtain rfl := Option.some.inj H
    go_enter Tryd.func25, Tryd.ntmps25
    go_wp2_with (first | ((with_reducible refine gate_callee (f := 57) rfl ?_); refine goesL_ (some 6) rfl rfl Tryd.func57 (by kernel_rfl) rfl #[.string a0] rfl (by (try simp only [List.map_toArray, List.map_cons, List.map_nil]); first | done | rfl | (simp only [List.length_drop, List.length_take]; rfl)) ?_; (with_reducible refine (cmp_isNaN_string.calls a0 false _ A3.out).mono ?_); rintro e w' ⟨rfl, ⟨nd, rfl⟩⟩; refine ⟨_, rfl, ?_⟩))
    go_ret
    exact ⟨by first | rfl | (simp; done) | (simp [*]; done) | (simp; exact (by decide : ∀ p q : Bool, (p == q) = (!(p != q))) _ _) | (simp; exact (by decide : ∀ p q : Bool, (!(p != q)) = (p == q)) _ _), by repeat (first | exact Drawn0.refl _ | apply Drawn0.step)⟩

end Go.Proofs.YtfihbohdhcidbaaDoor.QSnpB
