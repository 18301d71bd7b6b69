-- Written for this claim by a program of this session.
import Derived.Test.YtcmajhdgaeploaaDoorQPthTx0
import Derived.Test.YtcmajhdgaeploaaDoorQPthTx1
import Derived.Test.YtcmajhdgaeploaaDoorQPthTx2
namespace Go.Proofs.YtcmajhdgaeploaaDoor.QPthT
open Go.RowKit Go.Proofs.YtcmajhdgaeploaaDoorW.PrintWords Go.Proofs.YtcmajhdgaeploaaDoorW.PrintLast Go.Proofs.YtcmajhdgaeploaaDoorW.PrintMore
attribute [local go_sem] max2_int min2_int max_two min_two max_three min_three max_four min_four   -- for this text's walks alone
set_option linter.unusedVariables false
set_option linter.unusedSimpArgs false

/-! ### garretlaw17_PathTogether: function 9 -/
mutual
def garretlaw17_PathTogether.j0 : Nat → List ByteArray → ByteArray → Bool → Option (Bool)
  | 0, _, _, _ => none
  | k + 1, x0, x1, x23 => if x23 = true then (some true) else (garretlaw17_PathTogether.l0 k x0 x1 x0 (x0.length : Int) 0)
def garretlaw17_PathTogether.l0 : Nat → List ByteArray → ByteArray → List ByteArray → Int → Int → Option (Bool)
  | 0, _, _, _, _, _ => none
  | k + 1, x0, x1, x24, x25, x26 => if x26 < x25 then (if 0 ≤ x26 then (if x26 < (x24.length : Int) then (if ((rdOf ByteArray.empty x24 x26).size : Int) > 300 then (some true) else (garretlaw17_PathTogether.l0 k x0 x1 x24 x25 (wrap64 (x26 + 1)))) else (none)) else (none)) else ((some (([] : List ByteArray) : List ByteArray)).bind fun y146 => (if y146.length + x0.length < 8796093022208 then ((some (y146 ++ x0 : List ByteArray)).bind fun y149 => (if y149.length < 8796093022208 then ((path_Sort.f (y149 ++ [x1])).bind fun t155 => (if (t155.length : Int) = (wrap64 ((x0.length : Int) + 1)) then (garretlaw17_PathTogether.l1 k x1 t155 false false t155 (t155.length : Int) 0) else (none))) else (none))) else (none)))
def garretlaw17_PathTogether.l1 : Nat → ByteArray → List ByteArray → Bool → Bool → List ByteArray → Int → Int → Option (Bool)
  | 0, _, _, _, _, _, _, _ => none
  | k + 1, x1, x7, x8, x9, x47, x48, x49 => if x49 < x48 then (if 0 ≤ x49 then (if x49 < (x47.length : Int) then (if x49 > 0 then (if 0 ≤ (wrap64 (x49 - 1)) then (if (wrap64 (x49 - 1)) < (x7.length : Int) then ((path_Less.f k (rdOf ByteArray.empty x47 x49) (rdOf ByteArray.empty x7 (wrap64 (x49 - 1)))).bind fun t160 => (garretlaw17_PathTogether.j3 k x1 x7 x8 x9 (rdOf ByteArray.empty x47 x49) x47 x48 x49 t160)) else (none)) else (none)) else (garretlaw17_PathTogether.j3 k x1 x7 x8 x9 (rdOf ByteArray.empty x47 x49) x47 x48 x49 false)) else (none)) else (none)) else (some x8)
def garretlaw17_PathTogether.j3 : Nat → ByteArray → List ByteArray → Bool → Bool → ByteArray → List ByteArray → Int → Int → Bool → Option (Bool)
  | 0, _, _, _, _, _, _, _, _, _ => none
  | k + 1, x1, x7, x8, x9, x11, x47, x48, x49, x64 => if x64 = true then (none) else ((path_Within.f k x1 x11).bind fun bt161 => (if bt161.2 = true then (if x9 = true then (none) else (if x8 = true then (garretlaw17_PathTogether.l1 k x1 x7 true (!bt161.2) x47 x48 (wrap64 (x49 + 1))) else (if x11.toList = x1.toList then (garretlaw17_PathTogether.l1 k x1 x7 bt161.2 false x47 x48 (wrap64 (x49 + 1))) else (none)))) else (if x9 = true then (if x8 = true then (garretlaw17_PathTogether.l1 k x1 x7 true true x47 x48 (wrap64 (x49 + 1))) else (garretlaw17_PathTogether.l1 k x1 x7 bt161.2 true x47 x48 (wrap64 (x49 + 1)))) else (if x8 = true then (garretlaw17_PathTogether.l1 k x1 x7 true (!bt161.2) x47 x48 (wrap64 (x49 + 1))) else (garretlaw17_PathTogether.l1 k x1 x7 bt161.2 false x47 x48 (wrap64 (x49 + 1)))))))
end
def garretlaw17_PathTogether.f (k : Nat) (l0 : List ByteArray) (a1 : ByteArray) : Option (Bool) := (garretlaw17_works.f k).bind fun t144 => (if t144 = true then (if (l0.length : Int) > 60 then (garretlaw17_PathTogether.j0 k l0 a1 true) else (garretlaw17_PathTogether.j0 k l0 a1 (decide ((a1.size : Int) > 300)))) else (none))
theorem garretlaw17_PathTogether.mono_l : ∀ k, (∀ y0 y1 y2, LeO (garretlaw17_PathTogether.j0 k y0 y1 y2) (garretlaw17_PathTogether.j0 (k + 1) y0 y1 y2)) ∧ (∀ y0 y1 y2 y3 y4, LeO (garretlaw17_PathTogether.l0 k y0 y1 y2 y3 y4) (garretlaw17_PathTogether.l0 (k + 1) y0 y1 y2 y3 y4)) ∧ (∀ y0 y1 y2 y3 y4 y5 y6, LeO (garretlaw17_PathTogether.l1 k y0 y1 y2 y3 y4 y5 y6) (garretlaw17_PathTogether.l1 (k + 1) y0 y1 y2 y3 y4 y5 y6)) ∧ (∀ y0 y1 y2 y3 y4 y5 y6 y7 y8, LeO (garretlaw17_PathTogether.j3 k y0 y1 y2 y3 y4 y5 y6 y7 y8) (garretlaw17_PathTogether.j3 (k + 1) y0 y1 y2 y3 y4 y5 y6 y7 y8))
  | 0 => ⟨fun _ _ _ r h => by simp [garretlaw17_PathTogether.j0] at h, fun _ _ _ _ _ r h => by simp [garretlaw17_PathTogether.l0] at h, fun _ _ _ _ _ _ _ r h => by simp [garretlaw17_PathTogether.l1] at h, fun _ _ _ _ _ _ _ _ _ r h => by simp [garretlaw17_PathTogether.j3] at h⟩
  | k + 1 => by
    obtain ⟨ih0, ih1, ih2, ih3⟩ := garretlaw17_PathTogether.mono_l k
    refine ⟨?_, ?_, ?_, ?_⟩
    · intro y0 y1 y2
      unfold garretlaw17_PathTogether.j0
      repeat' first
      | (with_reducible exact ih0 _ _ _)
      | (with_reducible exact ih1 _ _ _ _ _)
      | (with_reducible exact ih2 _ _ _ _ _ _ _)
      | (with_reducible exact ih3 _ _ _ _ _ _ _ _ _)
      | (with_reducible exact garretlaw17_works.mono _)
      | (with_reducible exact path_Less.mono _ _ _)
      | (with_reducible exact path_Within.mono _ _ _)
      | (with_reducible exact LeO.refl _)
      | (with_reducible exact LeO.none _)
      | (with_reducible refine LeO.ite ?_ ?_)
      | (with_reducible refine LeO.bind ?_ (fun _ => ?_))
      | exact ih0 _ _ _
      | exact ih1 _ _ _ _ _
      | exact ih2 _ _ _ _ _ _ _
      | exact ih3 _ _ _ _ _ _ _ _ _
      | exact garretlaw17_works.mono _
      | exact path_Less.mono _ _ _
      | exact path_Within.mono _ _ _
      | exact LeO.none _
      | refine LeO.ite ?_ ?_
      | refine LeO.bind ?_ (fun _ => ?_)
    · intro y0 y1 y2 y3 y4
      unfold garretlaw17_PathTogether.l0
      repeat' first
      | (with_reducible exact ih0 _ _ _)
      | (with_reducible exact ih1 _ _ _ _ _)
      | (with_reducible exact ih2 _ _ _ _ _ _ _)
      | (with_reducible exact ih3 _ _ _ _ _ _ _ _ _)
      | (with_reducible exact garretlaw17_works.mono _)
      | (with_reducible exact path_Less.mono _ _ _)
      | (with_reducible exact path_Within.mono _ _ _)
      | (with_reducible exact LeO.refl _)
      | (with_reducible exact LeO.none _)
      | (with_reducible refine LeO.ite ?_ ?_)
      | (with_reducible refine LeO.bind ?_ (fun _ => ?_))
      | exact ih0 _ _ _
      | exact ih1 _ _ _ _ _
      | exact ih2 _ _ _ _ _ _ _
      | exact ih3 _ _ _ _ _ _ _ _ _
      | exact garretlaw17_works.mono _
      | exact path_Less.mono _ _ _
      | exact path_Within.mono _ _ _
      | exact LeO.none _
      | refine LeO.ite ?_ ?_
      | refine LeO.bind ?_ (fun _ => ?_)
    · intro y0 y1 y2 y3 y4 y5 y6
      unfold garretlaw17_PathTogether.l1
      repeat' first
      | (with_reducible exact ih0 _ _ _)
      | (with_reducible exact ih1 _ _ _ _ _)
      | (with_reducible exact ih2 _ _ _ _ _ _ _)
      | (with_reducible exact ih3 _ _ _ _ _ _ _ _ _)
      | (with_reducible exact garretlaw17_works.mono _)
      | (with_reducible exact path_Less.mono _ _ _)
      | (with_reducible exact path_Within.mono _ _ _)
      | (with_reducible exact LeO.refl _)
      | (with_reducible exact LeO.none _)
      | (with_reducible refine LeO.ite ?_ ?_)
      | (with_reducible refine LeO.bind ?_ (fun _ => ?_))
      | exact ih0 _ _ _
      | exact ih1 _ _ _ _ _
      | exact ih2 _ _ _ _ _ _ _
      | exact ih3 _ _ _ _ _ _ _ _ _
      | exact garretlaw17_works.mono _
      | exact path_Less.mono _ _ _
      | exact path_Within.mono _ _ _
      | exact LeO.none _
      | refine LeO.ite ?_ ?_
      | refine LeO.bind ?_ (fun _ => ?_)
    · intro y0 y1 y2 y3 y4 y5 y6 y7 y8
      unfold garretlaw17_PathTogether.j3
      repeat' first
      | (with_reducible exact ih0 _ _ _)
      | (with_reducible exact ih1 _ _ _ _ _)
      | (with_reducible exact ih2 _ _ _ _ _ _ _)
      | (with_reducible exact ih3 _ _ _ _ _ _ _ _ _)
      | (with_reducible exact garretlaw17_works.mono _)
      | (with_reducible exact path_Less.mono _ _ _)
      | (with_reducible exact path_Within.mono _ _ _)
      | (with_reducible exact LeO.refl _)
      | (with_reducible exact LeO.none _)
      | (with_reducible refine LeO.ite ?_ ?_)
      | (with_reducible refine LeO.bind ?_ (fun _ => ?_))
      | exact ih0 _ _ _
      | exact ih1 _ _ _ _ _
      | exact ih2 _ _ _ _ _ _ _
      | exact ih3 _ _ _ _ _ _ _ _ _
      | exact garretlaw17_works.mono _
      | exact path_Less.mono _ _ _
      | exact path_Within.mono _ _ _
      | exact LeO.none _
      | refine LeO.ite ?_ ?_
      | refine LeO.bind ?_ (fun _ => ?_)
theorem garretlaw17_PathTogether.mono : ∀ a0 a1 k, LeO (garretlaw17_PathTogether.f k a0 a1) (garretlaw17_PathTogether.f (k + 1) a0 a1) := by
  intro a0 a1 k
  obtain ⟨ih0, ih1, ih2, ih3⟩ := garretlaw17_PathTogether.mono_l k
  unfold garretlaw17_PathTogether.f
  repeat' first
      | (with_reducible exact ih0 _ _ _)
      | (with_reducible exact ih1 _ _ _ _ _)
      | (with_reducible exact ih2 _ _ _ _ _ _ _)
      | (with_reducible exact ih3 _ _ _ _ _ _ _ _ _)
      | (with_reducible exact garretlaw17_works.mono _)
      | (with_reducible exact path_Less.mono _ _ _)
      | (with_reducible exact path_Within.mono _ _ _)
      | (with_reducible exact LeO.refl _)
      | (with_reducible exact LeO.none _)
      | (with_reducible refine LeO.ite ?_ ?_)
      | (with_reducible refine LeO.bind ?_ (fun _ => ?_))
      | exact ih0 _ _ _
      | exact ih1 _ _ _ _ _
      | exact ih2 _ _ _ _ _ _ _
      | exact ih3 _ _ _ _ _ _ _ _ _
      | exact garretlaw17_works.mono _
      | exact path_Less.mono _ _ _
      | exact path_Within.mono _ _ _
      | exact LeO.none _
      | refine LeO.ite ?_ ?_
      | refine LeO.bind ?_ (fun _ => ?_)
set_option maxHeartbeats 8000000 in
set_option maxRecDepth 100000 in
theorem garretlaw17_PathTogether.calls (k : Nat) (A0 : Option Addr) (c0 : Nat) (l0 : List ByteArray) (a1 : ByteArray) (r : Bool) (w : World) (hr0 : Kd.C Kd.string w A0 l0.length l0) (hc0 : l0.length ≤ c0) (hL : Laid w) (h : garretlaw17_PathTogether.f k l0 a1 = some r) :
    Calls Tryd.prog 9 #[.slice A0 l0.length c0, .string a1] w fun e w' => e = .returned (.bool r) ∧ Below w.heap.size w w' := by
  have HR0 := Aside0.mk hr0
  have HC0 := Aside0.mk hc0
  clear hr0 hc0
  have HLAID := Aside0.mk hL
  clear hL
  have HB := Aside0.mk (Below.refl w.heap.size w)
  have H : ((garretlaw17_works.f k).bind fun t144 => (if t144 = true then (if (l0.length : Int) > 60 then (garretlaw17_PathTogether.j0 k l0 a1 true) else (garretlaw17_PathTogether.j0 k l0 a1 (decide ((a1.size : Int) > 300)))) else (none))) = some r := h
  clear h
  replace H := Option.bind_eq_some_iff.mp H
  obtain ⟨t144, A30, H⟩ := H
  replace H : (if t144 = true then (if (l0.length : Int) > 60 then (garretlaw17_PathTogether.j0 k l0 a1 true) else (garretlaw17_PathTogether.j0 k l0 a1 (decide ((a1.size : Int) > 300)))) else (none)) = some r := H
  have A3 := Aside0.mk A30
  clear A30
  by_cases c4 : t144 = true
  · subst c4
    have H1 : (if (l0.length : Int) > 60 then (garretlaw17_PathTogether.j0 k l0 a1 true) else (garretlaw17_PathTogether.j0 k l0 a1 (decide ((a1.size : Int) > 300)))) = some r := by rw [if_pos rfl] at H; exact H
    clear H
    have H := H1
    clear H1
    have HC5 := Aside0.mk H
    clear H
    go_enter Tryd.func9, Tryd.ntmps9
    go_upto_region 3 with (first | ((with_reducible refine gate_callee (f := 19) rfl ?_); refine goesL_ (some 14) rfl rfl Tryd.func19 (by kernel_rfl) rfl #[] rfl (by (try simp only [List.map_toArray, List.map_cons, List.map_nil]); first | done | rfl | (simp only [List.length_drop, List.length_take]; rfl)) ?_; (with_reducible refine (garretlaw17_works.calls k  true _ ?side1 A3.out).mono ?_); (case side1 => first | exact HLAID.out | exact Laid.drewN HLAID.out _ | exact Laid.below HLAID.out (by repeat (first | (with_reducible first | exact HB.out | apply below_alloc | apply pw_below_drewN | apply below_drew1) | exact HB.out))); rintro e w6 ⟨rfl, hb⟩; refine ⟨_, rfl, ?_⟩; have n0_ := Aside0.mk (below_step (by repeat (first | (with_reducible first | exact HB.out | apply below_alloc | apply pw_below_drewN | apply below_drew1) | exact HB.out)) hb); clear HB; have HB := n0_; clear n0_; (try clear hb); (try clear hb2); (try clear hk); (try clear hi)))
    (try simp only [Act.put, List.setIfInBounds_toArray, List.set_cons_zero, List.set_cons_succ])
    go_cut [23] (fun v23 wc => ∃ (kq : Nat) (x23_4 : Bool), v23 = .bool x23_4 ∧ Aside0 (garretlaw17_PathTogether.j0 kq l0 a1 x23_4 = some r) ∧ Aside0 (kq ≤ k) ∧ Aside0 (Below w.heap.size w wc))
    case first =>
      have H := HC5.out
      clear HC5
      by_cases c7 : (l0.length : Int) > 60
      · rw [if_pos c7] at H
        have c7b0 : decide (60 < (l0.length : Int)) = true := decide_eq_true c7
        have c7b1 : decide (60 < l0.length) = true := decide_eq_true (by omega)
        clear c7
        (first | rw [c7b0] | (simp only [i64_w, i32_w]; rw [c7b0]) | skip)
        have H' := Aside0.mk H
        clear H
        go_wp2
        go_meet
        case rel => exact ⟨_, (true), (by first | rfl | (simp; done) | (simp [*]; done) | (simp; exact (by decide : ∀ p q : Bool, (p == q) = (!(p != q))) _ _) | (simp; exact (by decide : ∀ p q : Bool, (!(p != q)) = (p == q)) _ _)), H', ⟨by first | omega | exact Nat.le_refl _⟩, ⟨by repeat (first | (with_reducible first | exact HB.out | apply below_alloc | apply pw_below_drewN | apply below_drew1) | exact HB.out)⟩⟩
      · rw [if_neg c7] at H
        have c7b0 : decide (60 < (l0.length : Int)) = false := decide_eq_false c7
        have c7b1 : decide (60 < l0.length) = false := decide_eq_false (by omega)
        clear c7
        (first | rw [c7b0] | (simp only [i64_w, i32_w]; rw [c7b0]) | skip)
        have H' := Aside0.mk H
        clear H
        go_wp2
        go_meet
        case rel => exact ⟨_, (decide ((a1.size : Int) > 300)), (by first | rfl | (simp; done) | (simp [*]; done) | (simp; exact (by decide : ∀ p q : Bool, (p == q) = (!(p != q))) _ _) | (simp; exact (by decide : ∀ p q : Bool, (!(p != q)) = (p == q)) _ _)), H', ⟨by first | omega | exact Nat.le_refl _⟩, ⟨by repeat (first | (with_reducible first | exact HB.out | apply below_alloc | apply pw_below_drewN | apply below_drew1) | exact HB.out)⟩⟩
    case rest =>
      clear HC5
      try clear c1
      try clear p2
      try clear c4
      try clear c7
      try clear c7b0
      try clear c7b1
      obtain ⟨kq, x23_4, rfl, HA, HJ4, HB⟩ := hcut
      cases kq with
      | zero => exact absurd HA.out (by simp [garretlaw17_PathTogether.j0])
      | succ kj4 =>
        have H := HA.out
        clear HA
        simp only [garretlaw17_PathTogether.j0] at H
        by_cases c8 : x23_4 = true
        · subst c8
          have H1 : (some true) = some r := by rw [if_pos rfl] at H; exact H
          clear H
          have H := H1
          clear H1
          obtain rfl := Option.some.inj H
          go_wp2
          go_ret
          exact ⟨by first | rfl | (simp [errW_none, errW_some] <;> rfl) | (simp [*, errW_none, errW_some] <;> rfl), by repeat (first | (with_reducible first | exact HB.out | apply below_alloc | apply pw_below_drewN | apply below_drew1) | exact HB.out)⟩
        · replace c8 := Bool.eq_false_iff.mpr c8
          subst c8
          have H1 : (garretlaw17_PathTogether.l0 kj4 l0 a1 l0 (l0.length : Int) 0) = some r := by rw [if_neg (show ¬ (false = true) by decide)] at H; exact H
          clear H
          have H := H1
          clear H1
          have H' := Aside0.mk H
          clear H
          go_wp2
          go_loopg [26] kj4 (fun kq v26 w' => ∃ (x26_2 : Int), v26 = .int .i64 x26_2 ∧ Aside0 (garretlaw17_PathTogether.l0 kq l0 a1 l0 (l0.length : Int) x26_2 = some r) ∧ Aside0 (kq ≤ kj4) ∧ Aside0 (Below w.heap.size w w'))
          case atStart => exact ⟨(0), (by first | rfl | (simp; done) | (simp [*]; done) | (simp; exact (by decide : ∀ p q : Bool, (p == q) = (!(p != q))) _ _) | (simp; exact (by decide : ∀ p q : Bool, (!(p != q)) = (p == q)) _ _)), H', ⟨Nat.le_refl _⟩, ⟨by repeat (first | (with_reducible first | exact HB.out | apply below_alloc | apply pw_below_drewN | apply below_drew1) | exact HB.out)⟩⟩
          case round =>
            clear H'
            try clear c1
            try clear p2
            try clear c4
            try clear c7
            try clear c7b0
            try clear c7b1
            try clear c8
            try clear p2
            obtain ⟨x26_2, rfl, HA, HK2, HB⟩ := hrel
            cases gk with
            | zero => exact absurd HA.out (by simp [garretlaw17_PathTogether.l0])
            | succ k2 =>
              have H := HA.out
              clear HA
              simp only [garretlaw17_PathTogether.l0] at H
              by_cases c9 : x26_2 < (l0.length : Int)
              · rw [if_pos c9] at H
                have c9b0 : decide (x26_2 < (l0.length : Int)) = true := decide_eq_true c9
                clear c9
                by_cases c10 : 0 ≤ x26_2
                · rw [if_pos c10] at H
                  have c10b0 : decide (0 ≤ x26_2) = true := decide_eq_true c10
                  clear c10
                  by_cases c11 : x26_2 < (l0.length : Int)
                  · rw [if_pos c11] at H
                    have c11b0 : decide (x26_2 < (l0.length : Int)) = true := decide_eq_true c11
                    clear c11
                    by_cases c12 : ((rdOf ByteArray.empty l0 x26_2).size : Int) > 300
                    · rw [if_pos c12] at H
                      have c12b0 : decide (300 < ((rdOf ByteArray.empty l0 x26_2).size : Int)) = true := decide_eq_true c12
                      have c12b1 : decide (300 < (rdOf ByteArray.empty l0 x26_2).size) = true := decide_eq_true (by omega)
                      clear c12
                      obtain rfl := Option.some.inj H
                      have p145 : 0 ≤ (x26_2 : Int) := of_decide_eq_true (by first | (with_reducible assumption) | assumption)
                      have q145 : x26_2 < (l0.length : Int) := of_decide_eq_true (by first | (with_reducible assumption) | assumption)
                      obtain ⟨ad145, e145, hx145_0⟩ := Kd.at_string HR0.out x26_2 p145 q145
                      cases e145
                      replace hx145_0 := (HB.out.cell (World.block_lt_of_cell? w _ hx145_0)).trans hx145_0
                      replace p145 := eq_true p145
                      replace q145 := eq_true q145
                      go_wp2
                      go_ret
                      exact ⟨by first | rfl | (simp [errW_none, errW_some] <;> rfl) | (simp [*, errW_none, errW_some] <;> rfl), by repeat (first | (with_reducible first | exact HB.out | apply below_alloc | apply pw_below_drewN | apply below_drew1) | exact HB.out)⟩
                    · rw [if_neg c12] at H
                      have c12b0 : decide (300 < ((rdOf ByteArray.empty l0 x26_2).size : Int)) = false := decide_eq_false c12
                      have c12b1 : decide (300 < (rdOf ByteArray.empty l0 x26_2).size) = false := decide_eq_false (by omega)
                      clear c12
                      have H' := Aside0.mk H
                      clear H
                      have p145 : 0 ≤ (x26_2 : Int) := of_decide_eq_true (by first | (with_reducible assumption) | assumption)
                      have q145 : x26_2 < (l0.length : Int) := of_decide_eq_true (by first | (with_reducible assumption) | assumption)
                      obtain ⟨ad145, e145, hx145_0⟩ := Kd.at_string HR0.out x26_2 p145 q145
                      cases e145
                      replace hx145_0 := (HB.out.cell (World.block_lt_of_cell? w _ hx145_0)).trans hx145_0
                      replace p145 := eq_true p145
                      replace q145 := eq_true q145
                      go_wp2
                      go_roundg k2
                      case measure => have := HJ4.out; have := HK2.out; omega
                      case rel => exact ⟨(wrap64 (x26_2 + 1)), (by first | rfl | (simp; done) | (simp [*]; done) | (simp; exact (by decide : ∀ p q : Bool, (p == q) = (!(p != q))) _ _) | (simp; exact (by decide : ∀ p q : Bool, (!(p != q)) = (p == q)) _ _)), H', ⟨by have := HJ4.out; have := HK2.out; omega⟩, ⟨by repeat (first | (with_reducible first | exact HB.out | apply below_alloc | apply pw_below_drewN | apply below_drew1) | exact HB.out)⟩⟩
                  · rw [if_neg c11] at H
                    exact absurd H (by simp)
                · rw [if_neg c10] at H
                  exact absurd H (by simp)
              · rw [if_neg c9] at H
                have c9b0 : decide (x26_2 < (l0.length : Int)) = false := decide_eq_false c9
                clear c9
                obtain ⟨y146, hy146⟩ : ∃ y_ : List ByteArray, y_ = (([] : List ByteArray)) := ⟨_, rfl⟩
                replace H : (if y146.length + l0.length < 8796093022208 then ((some (y146 ++ l0 : List ByteArray)).bind fun y149 => (if y149.length < 8796093022208 then ((path_Sort.f (y149 ++ [a1])).bind fun t155 => (if (t155.length : Int) = (wrap64 ((l0.length : Int) + 1)) then (garretlaw17_PathTogether.l1 k2 a1 t155 false false t155 (t155.length : Int) 0) else (none))) else (none))) else (none)) = some r := by first | (rw [hy146]; with_reducible exact H) | (have H2_ := (Option.bind_some _ _).symm.trans H; rw [hy146]; with_reducible exact H2_) | (have H2_ := (Option.bind_some _ _).symm.trans H; with_reducible exact H2_) | with_reducible exact H | (rw [hy146]; exact H) | exact H
                have Ny146 := Aside0.mk hy146
                clear hy146
                by_cases c13 : y146.length + l0.length < 8796093022208
                · rw [if_pos c13] at H
                  have LMc13 := Aside0.mk c13
                  clear c13
                  obtain ⟨y149, hy149⟩ : ∃ y_ : List ByteArray, y_ = (y146 ++ l0) := ⟨_, rfl⟩
                  replace H : (if y149.length < 8796093022208 then ((path_Sort.f (y149 ++ [a1])).bind fun t155 => (if (t155.length : Int) = (wrap64 ((l0.length : Int) + 1)) then (garretlaw17_PathTogether.l1 k2 a1 t155 false false t155 (t155.length : Int) 0) else (none))) else (none)) = some r := by first | (rw [hy149]; with_reducible exact H) | (have H2_ := (Option.bind_some _ _).symm.trans H; rw [hy149]; with_reducible exact H2_) | (have H2_ := (Option.bind_some _ _).symm.trans H; with_reducible exact H2_) | with_reducible exact H | (rw [hy149]; exact H) | exact H
                  have Ny149 := Aside0.mk hy149
                  clear hy149
                  by_cases c14 : y149.length < 8796093022208
                  · rw [if_pos c14] at H
                    have LMc14 := Aside0.mk c14
                    clear c14
                    obtain ⟨y152, hy152⟩ : ∃ y_ : List ByteArray, y_ = (y149 ++ [a1]) := ⟨_, rfl⟩
                    replace H : ((path_Sort.f y152).bind fun t155 => (if (t155.length : Int) = (wrap64 ((l0.length : Int) + 1)) then (garretlaw17_PathTogether.l1 k2 a1 t155 false false t155 (t155.length : Int) 0) else (none))) = some r := by first | (rw [hy152]; with_reducible exact H) | (have H2_ := (Option.bind_some _ _).symm.trans H; rw [hy152]; with_reducible exact H2_) | (have H2_ := (Option.bind_some _ _).symm.trans H; with_reducible exact H2_) | with_reducible exact H | (rw [hy152]; exact H) | exact H
                    have Ny152 := Aside0.mk hy152
                    clear hy152
                    replace H := Option.bind_eq_some_iff.mp H
                    obtain ⟨t155, A150, H⟩ := H
                    replace H : (if (t155.length : Int) = (wrap64 ((l0.length : Int) + 1)) then (garretlaw17_PathTogether.l1 k2 a1 t155 false false t155 (t155.length : Int) 0) else (none)) = some r := H
                    have A15 := Aside0.mk A150
                    clear A150
                    by_cases c16 : (t155.length : Int) = (wrap64 ((l0.length : Int) + 1))
                    · rw [if_pos c16] at H
                      have c16b0 : ((t155.length : Int) == (wrap64 ((l0.length : Int) + 1))) = true := beq_iff_eq.mpr c16
                      have c16b1 : ((t155.length : Int) != (wrap64 ((l0.length : Int) + 1))) = false := bne_eq_false_iff_eq.mpr c16
                      clear c16
                      have H' := Aside0.mk H
                      clear H
                      go_wp2_with (first | ((with_reducible refine gate_dst (N := 34) rfl ?_); (try (refine gate_guard (by rfl) ?_; dsimp only)); refine Kd.R_lit Kd.string _ 9 ?hg (N := 34) ?hd (xs := ([] : List ByteArray)) (inner := []) (ok := fun _ => True) (okp := fun _ => True) ?hr ?hp (fun _ hk => hk) trivial (Below.refl _ _) (Nat.le_refl _) (by simp) ?_; (case hd => rfl); (case hg => rfl); (case hr => first | (go_simp; done) | (go_simp; rfl)); (case hp => exact (Reps.none _ _)); intro v147 w17 ho18 hb hg_ hnew_; clear hg_ hnew_; (first | rw [← Ny146.out] at ho18 | (simp only [Int.reduceToNat] at ho18; rw [← Ny146.out] at ho18)); have n0_ := Aside0.mk (Kd.R_lower ho18 (below_size (by repeat (first | (with_reducible first | exact HB.out | apply below_alloc | apply pw_below_drewN | apply below_drew1) | exact HB.out)))); have n1_ := Aside0.mk (below_step (by repeat (first | (with_reducible first | exact HB.out | apply below_alloc | apply pw_below_drewN | apply below_drew1) | exact HB.out)) hb); clear HB; have HO148 := n0_; have HB := n1_; clear n0_ n1_; clear hb ho18) | ((with_reducible refine gate_builtin (b := .append) (xs := #[.tmp 34, .tmp 35]) rfl ?_); (try (refine gate_guard (by rfl) ?_; dsimp only)); at_builtin; refine Kd.R_append_rows Kd.string (w0 := w) w.heap.size rfl (.tmp 34) (.tmp 35) 45 9 (.string ⟨#[]⟩) 16 rfl Tryd.underlying45 info9 rfl (by decide) (by omega) v147 y146 l0 _ _ _ (fun _ => True) (fun _ => False) rfl rfl ?aO ?aR (fun _ _ h => h) (fun _ h => h.elim) ?aF ?aB ?aS ?aL ?_; (case aR => repeat (first | exact (Kd.C_below HR0.out HB.out) | (with_reducible refine Kd.C_alloc ?_ _) | (with_reducible refine Kd.C_drewN ?_ _) | (with_reducible refine Kd.C_drew ?_))); (case aB => exact (by repeat (first | (with_reducible first | exact HB.out | apply below_alloc | apply pw_below_drewN | apply below_drew1) | exact HB.out))); (case aF => exact (fun _ _ => trivial)); (case aO => exact (by (with_reducible repeat (first | apply Kd.R_alloc | apply Kd.R_drewN | apply Kd.R_drew)); exact HO148.out)); (case aS => exact (below_size (by repeat (first | (with_reducible first | exact HB.out | apply below_alloc | apply pw_below_drewN | apply below_drew1) | exact HB.out)))); (case aL => have := LMc13.out; omega); intro v150 w19 ho hb hg hat; rw [← Ny149.out] at ho; have n0_ := Aside0.mk (hb); have n1_ := Aside0.mk (ho); clear HB; clear HO148; have HB := n0_; have HO151 := n1_; clear n0_ n1_; clear ho hb hg hat) | ((with_reducible refine gate_builtin (b := .append) (xs := #[.tmp 36, .tmp 38]) rfl ?_); (try (refine gate_guard (by rfl) ?_; dsimp only)); at_builtin; refine Kd.R_append Kd.string (w0 := w) w.heap.size rfl (.tmp 36) (.tmp 38) 45 9 (.string ⟨#[]⟩) 16 rfl Tryd.underlying45 info9 rfl (by decide) (by omega) v150 y149 a1 [.string a1] (fun _ => True) (fun _ => False) rfl rfl ?aP (fun _ hk => hk.elim) ?aF ?aO ?aB ?aS ?aL ?_; (case aP => exact rfl); (case aB => exact (by repeat (first | (with_reducible first | exact HB.out | apply below_alloc | apply pw_below_drewN | apply below_drew1) | exact HB.out))); (case aF => exact (fun _ _ => trivial)); (case aO => exact (by (with_reducible repeat (first | apply Kd.R_alloc | apply Kd.R_drewN | apply Kd.R_drew)); exact HO151.out)); (case aS => exact (below_size (by repeat (first | (with_reducible first | exact HB.out | apply below_alloc | apply pw_below_drewN | apply below_drew1) | exact HB.out)))); (case aL => have := LMc14.out; omega); intro v153 w20 ho hb hg hat; rw [← Ny152.out] at ho; have n0_ := Aside0.mk (hb); have n1_ := Aside0.mk (ho); clear HB; clear HO151; have HB := n0_; have HO154 := n1_; clear n0_ n1_; clear ho hb hg hat; obtain ⟨Ao21, co21, eo21⟩ := Kd.R_slice HO154.out; subst eo21) | ((with_reducible refine gate_callee (f := 31) rfl ?_); refine goesL_ (some 40) rfl rfl Tryd.func31 (by kernel_rfl) rfl #[.slice Ao21 y152.length co21] rfl (by (try simp only [List.map_toArray, List.map_cons, List.map_nil]); first | done | rfl | (simp only [List.length_drop, List.length_take]; rfl)) ?_; (with_reducible refine (path_Sort.calls _ _ y152 t155 _ ?side1 ?side2 ?side3 A15.out).mono ?_); (case side1 => repeat (first | exact (Kd.R_reads' HO154.out).2.2 | (with_reducible refine Kd.C_alloc ?_ _) | (with_reducible refine Kd.C_drewN ?_ _) | (with_reducible refine Kd.C_drew ?_))); (case side2 => exact (Kd.R_reads' HO154.out).2.1); (case side3 => first | exact HLAID.out | exact Laid.drewN HLAID.out _ | exact Laid.below HLAID.out (by repeat (first | (with_reducible first | exact HB.out | apply below_alloc | apply pw_below_drewN | apply below_drew1) | exact HB.out))); rintro e w22 ⟨v156, rfl, ho0, hb⟩; refine ⟨_, rfl, ?_⟩; have n0_ := Aside0.mk (Kd.R_elder' (by (with_reducible repeat (first | apply Kd.R_alloc | apply Kd.R_drewN | apply Kd.R_drew)); exact HO154.out) (Kd.R_base ho0) hb); have n1_ := Aside0.mk (Kd.R_lower (Kd.R_new' ho0 (Kd.R_lt (by (with_reducible repeat (first | apply Kd.R_alloc | apply Kd.R_drewN | apply Kd.R_drew)); exact HO154.out))) (below_size (by repeat (first | (with_reducible first | exact HB.out | apply below_alloc | apply pw_below_drewN | apply below_drew1) | exact HB.out)))); have n2_ := Aside0.mk (below_step (by repeat (first | (with_reducible first | exact HB.out | apply below_alloc | apply pw_below_drewN | apply below_drew1) | exact HB.out)) hb); clear HO154; clear HB; have HO154 := n0_; have HO157 := n1_; have HB := n2_; clear n0_ n1_ n2_; (try clear hb); (try clear hb2); (try clear hk); (try clear hi); (try clear ho0); obtain ⟨Ao23, co23, eo23⟩ := Kd.R_slice HO157.out; subst eo23))
                      go_loopg [8, 9, 49] k2 (fun kq v8 v9 v49 w' => ∃ (x8_3 : Bool) (x9_3 : Bool) (x49_3 : Int), v8 = .bool x8_3 ∧ v9 = .bool x9_3 ∧ v49 = .int .i64 x49_3 ∧ Aside0 (garretlaw17_PathTogether.l1 kq a1 t155 x8_3 x9_3 t155 (t155.length : Int) x49_3 = some r) ∧ Aside0 (kq ≤ k2) ∧ Aside0 (Kd.R Kd.string 9 w' w.heap.size (fun _ => True) (.slice Ao23 t155.length co23) t155) ∧ Aside0 (Kd.R Kd.string 9 w' w.heap.size (fun _ => True) (.slice Ao23 t155.length co23) t155) ∧ Aside0 (Below w.heap.size w w'))
                      case atStart => exact ⟨(false), (false), (0), (by first | rfl | (simp; done) | (simp [*]; done) | (simp; exact (by decide : ∀ p q : Bool, (p == q) = (!(p != q))) _ _) | (simp; exact (by decide : ∀ p q : Bool, (!(p != q)) = (p == q)) _ _)), (by first | rfl | (simp; done) | (simp [*]; done) | (simp; exact (by decide : ∀ p q : Bool, (p == q) = (!(p != q))) _ _) | (simp; exact (by decide : ∀ p q : Bool, (!(p != q)) = (p == q)) _ _)), (by first | rfl | (simp; done) | (simp [*]; done) | (simp; exact (by decide : ∀ p q : Bool, (p == q) = (!(p != q))) _ _) | (simp; exact (by decide : ∀ p q : Bool, (!(p != q)) = (p == q)) _ _)), H', ⟨Nat.le_refl _⟩, ⟨by (with_reducible repeat (first | apply Kd.R_alloc | apply Kd.R_drewN | apply Kd.R_drew)); exact Kd.R_mono HO157.out (fun _ hk => trivial)⟩, ⟨by (with_reducible repeat (first | apply Kd.R_alloc | apply Kd.R_drewN | apply Kd.R_drew)); exact Kd.R_mono HO157.out (fun _ hk => trivial)⟩, ⟨by repeat (first | (with_reducible first | exact HB.out | apply below_alloc | apply pw_below_drewN | apply below_drew1) | exact HB.out)⟩⟩
                      case round =>
                        clear H'
                        try clear c1
                        try clear p1
                        try clear q1
                        try clear hx1
                        try clear p2
                        try clear c3
                        try clear c4
                        try clear p6
                        try clear c7
                        try clear c7b0
                        try clear c7b1
                        try clear c8
                        try clear c9
                        try clear c9b0
                        try clear c10
                        try clear c10b0
                        try clear c11
                        try clear c11b0
                        try clear c12
                        try clear c12b0
                        try clear c12b1
                        try clear c13
                        try clear c14
                        try clear p14
                        try clear q14
                        try clear hx14
                        try clear c16
                        try clear c16b0
                        try clear c16b1
                        try clear c19
                        try clear hx145_0
                        try clear p145
                        try clear p2
                        try clear q145
                        obtain ⟨x8_3, x9_3, x49_3, rfl, rfl, rfl, HA, HK3, HO_7, HO_47, HB⟩ := hrel
                        cases gk with
                        | zero => exact absurd HA.out (by simp [garretlaw17_PathTogether.l1])
                        | succ k3 =>
                          have H := HA.out
                          clear HA
                          simp only [garretlaw17_PathTogether.l1] at H
                          by_cases c24 : x49_3 < (t155.length : Int)
                          · rw [if_pos c24] at H
                            have c24b0 : decide (x49_3 < (t155.length : Int)) = true := decide_eq_true c24
                            clear c24
                            by_cases c25 : 0 ≤ x49_3
                            · rw [if_pos c25] at H
                              have c25b0 : decide (0 ≤ x49_3) = true := decide_eq_true c25
                              clear c25
                              by_cases c26 : x49_3 < (t155.length : Int)
                              · rw [if_pos c26] at H
                                have c26b0 : decide (x49_3 < (t155.length : Int)) = true := decide_eq_true c26
                                clear c26
                                have HC27 := Aside0.mk H
                                clear H
                                have p158 : 0 ≤ (x49_3 : Int) := of_decide_eq_true (by first | (with_reducible assumption) | assumption)
                                have q158 : x49_3 < (t155.length : Int) := of_decide_eq_true (by first | (with_reducible assumption) | assumption)
                                obtain ⟨ad158, e158, hx158_0⟩ := Kd.at_string (Kd.R_reads' HO_47.out).2.2 x49_3 p158 q158
                                cases e158
                                replace p158 := eq_true p158
                                replace q158 := eq_true q158
                                go_upto_region 18 with (fail)
                                go_cut [64] (fun v64 wc => ∃ (kq : Nat) (x64_26 : Bool), v64 = .bool x64_26 ∧ Aside0 (garretlaw17_PathTogether.j3 kq a1 t155 x8_3 x9_3 (rdOf ByteArray.empty t155 x49_3) t155 (t155.length : Int) x49_3 x64_26 = some r) ∧ Aside0 (kq ≤ k3) ∧ Aside0 (Kd.R Kd.string 9 wc w.heap.size (fun _ => True) (.slice (some ad158) t155.length co23) t155) ∧ Aside0 (Kd.R Kd.string 9 wc w.heap.size (fun _ => True) (.slice (some ad158) t155.length co23) t155) ∧ Aside0 (Below w.heap.size w wc))
                                case first =>
                                  have H := HC27.out
                                  clear HC27
                                  by_cases c28 : x49_3 > 0
                                  · rw [if_pos c28] at H
                                    have c28b0 : decide (0 < x49_3) = true := decide_eq_true c28
                                    clear c28
                                    (first | rw [c28b0] | (simp only [i64_w, i32_w]; rw [c28b0]) | skip)
                                    obtain ⟨ji29, hji29⟩ : ∃ j_ : Int, (wrap64 (x49_3 - 1)) = j_ := ⟨_, rfl⟩
                                    replace H : (if 0 ≤ (ji29) then (if (ji29) < (t155.length : Int) then ((path_Less.f k3 (rdOf ByteArray.empty t155 x49_3) (rdOf ByteArray.empty t155 (ji29))).bind fun t160 => (garretlaw17_PathTogether.j3 k3 a1 t155 x8_3 x9_3 (rdOf ByteArray.empty t155 x49_3) t155 (t155.length : Int) x49_3 t160)) else (none)) else (none)) = some r := by first | (rw [hji29] at H; exact H) | (simp only [hji29] at H ⊢; exact H)
                                    have hji29w : (IntKind.i64.wrap (x49_3 - 1)) = ji29 := (i64_w _).trans hji29
                                    by_cases c30 : 0 ≤ (ji29)
                                    · rw [if_pos c30] at H
                                      have c30b0 : decide (0 ≤ (ji29)) = true := decide_eq_true c30
                                      clear c30
                                      by_cases c31 : (ji29) < (t155.length : Int)
                                      · rw [if_pos c31] at H
                                        have c31b0 : decide ((ji29) < (t155.length : Int)) = true := decide_eq_true c31
                                        clear c31
                                        replace H := Option.bind_eq_some_iff.mp H
                                        obtain ⟨t160, A320, H⟩ := H
                                        replace H : (garretlaw17_PathTogether.j3 k3 a1 t155 x8_3 x9_3 (rdOf ByteArray.empty t155 x49_3) t155 (t155.length : Int) x49_3 t160) = some r := H
                                        have A32 := Aside0.mk A320
                                        clear A320
                                        have H' := Aside0.mk H
                                        clear H
                                        have p159 : 0 ≤ ((ji29) : Int) := of_decide_eq_true (by first | (with_reducible assumption) | assumption)
                                        have q159 : (ji29) < (t155.length : Int) := of_decide_eq_true (by first | (with_reducible assumption) | assumption)
                                        obtain ⟨ad159, e159, hx159_0⟩ := Kd.at_string (Kd.R_reads' HO_7.out).2.2 (ji29) p159 q159
                                        obtain rfl : ad158 = ad159 := (by injection e159)
                                        replace p159 := eq_true p159
                                        replace q159 := eq_true q159
                                        go_wp2_with (first | (go_at_call 20; (with_reducible refine (path_Less.calls k3 (rdOf ByteArray.empty t155 x49_3) (rdOf ByteArray.empty t155 (ji29)) t160 _ ?side1 A32.out).mono ?_); (case side1 => first | exact HLAID.out | exact Laid.drewN HLAID.out _ | exact Laid.below HLAID.out (by repeat (first | (with_reducible first | exact HB.out | apply below_alloc | apply pw_below_drewN | apply below_drew1) | exact HB.out))); rintro e w33 ⟨rfl, hb⟩; have n0_ := Aside0.mk (Kd.R_below (by (with_reducible repeat (first | apply Kd.R_alloc | apply Kd.R_drewN | apply Kd.R_drew)); exact HO_7.out) hb); have n1_ := Aside0.mk (Kd.R_below (by (with_reducible repeat (first | apply Kd.R_alloc | apply Kd.R_drewN | apply Kd.R_drew)); exact HO_47.out) hb); have n2_ := Aside0.mk (below_step (by repeat (first | (with_reducible first | exact HB.out | apply below_alloc | apply pw_below_drewN | apply below_drew1) | exact HB.out)) hb); clear HO_7; clear HO_47; clear HB; have HO_7 := n0_; have HO_47 := n1_; have HB := n2_; clear n0_ n1_ n2_; (try clear hb); (try clear hb2); (try clear hk); (try clear hi)))
                                        go_meet
                                        case rel => exact ⟨_, (t160), (by first | rfl | (simp; done) | (simp [*]; done) | (simp; exact (by decide : ∀ p q : Bool, (p == q) = (!(p != q))) _ _) | (simp; exact (by decide : ∀ p q : Bool, (!(p != q)) = (p == q)) _ _)), H', ⟨by have := HJ4.out; have := HK2.out; have := HK3.out; first | omega | exact Nat.le_refl _⟩, ⟨by (with_reducible repeat (first | apply Kd.R_alloc | apply Kd.R_drewN | apply Kd.R_drew)); exact HO_7.out⟩, ⟨by (with_reducible repeat (first | apply Kd.R_alloc | apply Kd.R_drewN | apply Kd.R_drew)); exact HO_47.out⟩, ⟨by repeat (first | (with_reducible first | exact HB.out | apply below_alloc | apply pw_below_drewN | apply below_drew1) | exact HB.out)⟩⟩
                                      · rw [if_neg c31] at H
                                        exact absurd H (by simp)
                                    · rw [if_neg c30] at H
                                      exact absurd H (by simp)
                                  · rw [if_neg c28] at H
                                    have c28b0 : decide (0 < x49_3) = false := decide_eq_false c28
                                    clear c28
                                    (first | rw [c28b0] | (simp only [i64_w, i32_w]; rw [c28b0]) | skip)
                                    have H' := Aside0.mk H
                                    clear H
                                    go_wp2
                                    go_meet
                                    case rel => exact ⟨_, (false), (by first | rfl | (simp; done) | (simp [*]; done) | (simp; exact (by decide : ∀ p q : Bool, (p == q) = (!(p != q))) _ _) | (simp; exact (by decide : ∀ p q : Bool, (!(p != q)) = (p == q)) _ _)), H', ⟨by have := HJ4.out; have := HK2.out; have := HK3.out; first | omega | exact Nat.le_refl _⟩, ⟨by (with_reducible repeat (first | apply Kd.R_alloc | apply Kd.R_drewN | apply Kd.R_drew)); exact HO_7.out⟩, ⟨by (with_reducible repeat (first | apply Kd.R_alloc | apply Kd.R_drewN | apply Kd.R_drew)); exact HO_47.out⟩, ⟨by repeat (first | (with_reducible first | exact HB.out | apply below_alloc | apply pw_below_drewN | apply below_drew1) | exact HB.out)⟩⟩
                                case rest =>
                                  clear HC27
                                  try clear c1
                                  try clear p1
                                  try clear q1
                                  try clear hx1
                                  try clear c2
                                  try clear p2
                                  try clear c3
                                  try clear c4
                                  try clear p6
                                  try clear c7
                                  try clear c7b0
                                  try clear c7b1
                                  try clear c8
                                  try clear c9
                                  try clear c9b0
                                  try clear c10
                                  try clear c10b0
                                  try clear c11
                                  try clear c11b0
                                  try clear c12
                                  try clear c12b0
                                  try clear c12b1
                                  try clear c13
                                  try clear c14
                                  try clear p14
                                  try clear q14
                                  try clear hx14
                                  try clear p15
                                  try clear q15
                                  try clear hx15
                                  try clear c16
                                  try clear c16b0
                                  try clear c16b1
                                  try clear c19
                                  try clear c24
                                  try clear c24b0
                                  try clear c25
                                  try clear c25b0
                                  try clear c26
                                  try clear c26b0
                                  try clear c28
                                  try clear c28b0
                                  try clear c30
                                  try clear c30b0
                                  try clear c31
                                  try clear c31b0
                                  try clear hx145_0
                                  try clear hx158_0
                                  try clear hx159_0
                                  try clear p1
                                  try clear p14
                                  try clear p145
                                  try clear p158
                                  try clear p159
                                  try clear p2
                                  try clear p6
                                  try clear q1
                                  try clear q14
                                  try clear q145
                                  try clear q158
                                  try clear q159
                                  obtain ⟨kq, x64_26, rfl, HA, HJ26, HO_7, HO_47, HB⟩ := hcut
                                  cases kq with
                                  | zero => exact absurd HA.out (by simp [garretlaw17_PathTogether.j3])
                                  | succ kj26 =>
                                    have H := HA.out
                                    clear HA
                                    simp only [garretlaw17_PathTogether.j3] at H
                                    by_cases c34 : x64_26 = true
                                    · subst c34
                                      have H1 : (none) = some r := by rw [if_pos rfl] at H; exact H
                                      clear H
                                      have H := H1
                                      clear H1
                                      exact absurd H (by simp)
                                    · replace c34 := Bool.eq_false_iff.mpr c34
                                      subst c34
                                      have H1 : ((path_Within.f kj26 a1 (rdOf ByteArray.empty t155 x49_3)).bind fun bt161 => (if bt161.2 = true then (if x9_3 = true then (none) else (if x8_3 = true then (garretlaw17_PathTogether.l1 kj26 a1 t155 true (!bt161.2) t155 (t155.length : Int) (wrap64 (x49_3 + 1))) else (if (rdOf ByteArray.empty t155 x49_3).toList = a1.toList then (garretlaw17_PathTogether.l1 kj26 a1 t155 bt161.2 false t155 (t155.length : Int) (wrap64 (x49_3 + 1))) else (none)))) else (if x9_3 = true then (if x8_3 = true then (garretlaw17_PathTogether.l1 kj26 a1 t155 true true t155 (t155.length : Int) (wrap64 (x49_3 + 1))) else (garretlaw17_PathTogether.l1 kj26 a1 t155 bt161.2 true t155 (t155.length : Int) (wrap64 (x49_3 + 1)))) else (if x8_3 = true then (garretlaw17_PathTogether.l1 kj26 a1 t155 true (!bt161.2) t155 (t155.length : Int) (wrap64 (x49_3 + 1))) else (garretlaw17_PathTogether.l1 kj26 a1 t155 bt161.2 false t155 (t155.length : Int) (wrap64 (x49_3 + 1))))))) = some r := by rw [if_neg (show ¬ (false = true) by decide)] at H; exact H
                                      clear H
                                      have H := H1
                                      clear H1
                                      replace H := Option.bind_eq_some_iff.mp H
                                      obtain ⟨⟨t161, t162⟩, A350, H⟩ := H
                                      replace H : (if t162 = true then (if x9_3 = true then (none) else (if x8_3 = true then (garretlaw17_PathTogether.l1 kj26 a1 t155 true (!t162) t155 (t155.length : Int) (wrap64 (x49_3 + 1))) else (if (rdOf ByteArray.empty t155 x49_3).toList = a1.toList then (garretlaw17_PathTogether.l1 kj26 a1 t155 t162 false t155 (t155.length : Int) (wrap64 (x49_3 + 1))) else (none)))) else (if x9_3 = true then (if x8_3 = true then (garretlaw17_PathTogether.l1 kj26 a1 t155 true true t155 (t155.length : Int) (wrap64 (x49_3 + 1))) else (garretlaw17_PathTogether.l1 kj26 a1 t155 t162 true t155 (t155.length : Int) (wrap64 (x49_3 + 1)))) else (if x8_3 = true then (garretlaw17_PathTogether.l1 kj26 a1 t155 true (!t162) t155 (t155.length : Int) (wrap64 (x49_3 + 1))) else (garretlaw17_PathTogether.l1 kj26 a1 t155 t162 false t155 (t155.length : Int) (wrap64 (x49_3 + 1)))))) = some r := H
                                      have A35 := Aside0.mk A350
                                      clear A350
                                      by_cases c36 : t162 = true
                                      · subst c36
                                        have H1 : (if x9_3 = true then (none) else (if x8_3 = true then (garretlaw17_PathTogether.l1 kj26 a1 t155 true (!true) t155 (t155.length : Int) (wrap64 (x49_3 + 1))) else (if (rdOf ByteArray.empty t155 x49_3).toList = a1.toList then (garretlaw17_PathTogether.l1 kj26 a1 t155 true false t155 (t155.length : Int) (wrap64 (x49_3 + 1))) else (none)))) = some r := by rw [if_pos rfl] at H; exact H
                                        clear H
                                        have H := H1
                                        clear H1
                                        by_cases c37 : x9_3 = true
                                        · subst c37
                                          have H1 : (none) = some r := by rw [if_pos rfl] at H; exact H
                                          clear H
                                          have H := H1
                                          clear H1
                                          exact absurd H (by simp)
                                        · replace c37 := Bool.eq_false_iff.mpr c37
                                          subst c37
                                          have H1 : (if x8_3 = true then (garretlaw17_PathTogether.l1 kj26 a1 t155 true (!true) t155 (t155.length : Int) (wrap64 (x49_3 + 1))) else (if (rdOf ByteArray.empty t155 x49_3).toList = a1.toList then (garretlaw17_PathTogether.l1 kj26 a1 t155 true false t155 (t155.length : Int) (wrap64 (x49_3 + 1))) else (none))) = some r := by rw [if_neg (show ¬ (false = true) by decide)] at H; exact H
                                          clear H
                                          have H := H1
                                          clear H1
                                          by_cases c38 : x8_3 = true
                                          · subst c38
                                            have H1 : (garretlaw17_PathTogether.l1 kj26 a1 t155 true (!true) t155 (t155.length : Int) (wrap64 (x49_3 + 1))) = some r := by rw [if_pos rfl] at H; exact H
                                            clear H
                                            have H := H1
                                            clear H1
                                            have H' := Aside0.mk H
                                            clear H
                                            go_wp2_with (first | ((with_reducible refine gate_callee (f := 32) rfl ?_); refine goesL_ (some 68) rfl rfl Tryd.func32 (by kernel_rfl) rfl #[.string a1, .string (rdOf ByteArray.empty t155 x49_3)] rfl (by (try simp only [List.map_toArray, List.map_cons, List.map_nil]); first | done | rfl | (simp only [List.length_drop, List.length_take]; rfl)) ?_; (with_reducible refine (path_Within.calls kj26 a1 (rdOf ByteArray.empty t155 x49_3) t161 true _ ?side1 A35.out).mono ?_); (case side1 => first | exact HLAID.out | exact Laid.drewN HLAID.out _ | exact Laid.below HLAID.out (by repeat (first | (with_reducible first | exact HB.out | apply below_alloc | apply pw_below_drewN | apply below_drew1) | exact HB.out))); rintro e w39 ⟨rfl, hb⟩; refine ⟨_, rfl, ?_⟩; have n0_ := Aside0.mk (Kd.R_below (by (with_reducible repeat (first | apply Kd.R_alloc | apply Kd.R_drewN | apply Kd.R_drew)); exact HO_7.out) hb); have n1_ := Aside0.mk (Kd.R_below (by (with_reducible repeat (first | apply Kd.R_alloc | apply Kd.R_drewN | apply Kd.R_drew)); exact HO_47.out) hb); have n2_ := Aside0.mk (below_step (by repeat (first | (with_reducible first | exact HB.out | apply below_alloc | apply pw_below_drewN | apply below_drew1) | exact HB.out)) hb); clear HO_7; clear HO_47; clear HB; have HO_7 := n0_; have HO_47 := n1_; have HB := n2_; clear n0_ n1_ n2_; (try clear hb); (try clear hb2); (try clear hk); (try clear hi)))
                                            go_roundg kj26
                                            case measure => have := HJ4.out; have := HK2.out; have := HK3.out; have := HJ26.out; omega
                                            case rel => exact ⟨(true), (!true), (wrap64 (x49_3 + 1)), (by first | rfl | (simp; done) | (simp [*]; done) | (simp; exact (by decide : ∀ p q : Bool, (p == q) = (!(p != q))) _ _) | (simp; exact (by decide : ∀ p q : Bool, (!(p != q)) = (p == q)) _ _)), (by first | rfl | (simp; done) | (simp [*]; done) | (simp; exact (by decide : ∀ p q : Bool, (p == q) = (!(p != q))) _ _) | (simp; exact (by decide : ∀ p q : Bool, (!(p != q)) = (p == q)) _ _)), (by first | rfl | (simp; done) | (simp [*]; done) | (simp; exact (by decide : ∀ p q : Bool, (p == q) = (!(p != q))) _ _) | (simp; exact (by decide : ∀ p q : Bool, (!(p != q)) = (p == q)) _ _)), H', ⟨by have := HJ4.out; have := HK2.out; have := HK3.out; have := HJ26.out; omega⟩, ⟨by (with_reducible repeat (first | apply Kd.R_alloc | apply Kd.R_drewN | apply Kd.R_drew)); exact HO_7.out⟩, ⟨by (with_reducible repeat (first | apply Kd.R_alloc | apply Kd.R_drewN | apply Kd.R_drew)); exact HO_47.out⟩, ⟨by repeat (first | (with_reducible first | exact HB.out | apply below_alloc | apply pw_below_drewN | apply below_drew1) | exact HB.out)⟩⟩
                                          · replace c38 := Bool.eq_false_iff.mpr c38
                                            subst c38
                                            have H1 : (if (rdOf ByteArray.empty t155 x49_3).toList = a1.toList then (garretlaw17_PathTogether.l1 kj26 a1 t155 true false t155 (t155.length : Int) (wrap64 (x49_3 + 1))) else (none)) = some r := by rw [if_neg (show ¬ (false = true) by decide)] at H; exact H
                                            clear H
                                            have H := H1
                                            clear H1
                                            by_cases c40 : (rdOf ByteArray.empty t155 x49_3).toList = a1.toList
                                            · rw [if_pos c40] at H
                                              have c40b0 : ((rdOf ByteArray.empty t155 x49_3).toList == a1.toList) = true := beq_iff_eq.mpr c40
                                              have c40b1 : ((rdOf ByteArray.empty t155 x49_3).toList != a1.toList) = false := bne_eq_false_iff_eq.mpr c40
                                              clear c40
                                              have H' := Aside0.mk H
                                              clear H
                                              go_wp2_with (first | ((with_reducible refine gate_callee (f := 32) rfl ?_); refine goesL_ (some 68) rfl rfl Tryd.func32 (by kernel_rfl) rfl #[.string a1, .string (rdOf ByteArray.empty t155 x49_3)] rfl (by (try simp only [List.map_toArray, List.map_cons, List.map_nil]); first | done | rfl | (simp only [List.length_drop, List.length_take]; rfl)) ?_; (with_reducible refine (path_Within.calls kj26 a1 (rdOf ByteArray.empty t155 x49_3) t161 true _ ?side1 A35.out).mono ?_); (case side1 => first | exact HLAID.out | exact Laid.drewN HLAID.out _ | exact Laid.below HLAID.out (by repeat (first | (with_reducible first | exact HB.out | apply below_alloc | apply pw_below_drewN | apply below_drew1) | exact HB.out))); rintro e w41 ⟨rfl, hb⟩; refine ⟨_, rfl, ?_⟩; have n0_ := Aside0.mk (Kd.R_below (by (with_reducible repeat (first | apply Kd.R_alloc | apply Kd.R_drewN | apply Kd.R_drew)); exact HO_7.out) hb); have n1_ := Aside0.mk (Kd.R_below (by (with_reducible repeat (first | apply Kd.R_alloc | apply Kd.R_drewN | apply Kd.R_drew)); exact HO_47.out) hb); have n2_ := Aside0.mk (below_step (by repeat (first | (with_reducible first | exact HB.out | apply below_alloc | apply pw_below_drewN | apply below_drew1) | exact HB.out)) hb); clear HO_7; clear HO_47; clear HB; have HO_7 := n0_; have HO_47 := n1_; have HB := n2_; clear n0_ n1_ n2_; (try clear hb); (try clear hb2); (try clear hk); (try clear hi)))
                                              go_roundg kj26
                                              case measure => have := HJ4.out; have := HK2.out; have := HK3.out; have := HJ26.out; omega
                                              case rel => exact ⟨(true), (false), (wrap64 (x49_3 + 1)), (by first | rfl | (simp; done) | (simp [*]; done) | (simp; exact (by decide : ∀ p q : Bool, (p == q) = (!(p != q))) _ _) | (simp; exact (by decide : ∀ p q : Bool, (!(p != q)) = (p == q)) _ _)), (by first | rfl | (simp; done) | (simp [*]; done) | (simp; exact (by decide : ∀ p q : Bool, (p == q) = (!(p != q))) _ _) | (simp; exact (by decide : ∀ p q : Bool, (!(p != q)) = (p == q)) _ _)), (by first | rfl | (simp; done) | (simp [*]; done) | (simp; exact (by decide : ∀ p q : Bool, (p == q) = (!(p != q))) _ _) | (simp; exact (by decide : ∀ p q : Bool, (!(p != q)) = (p == q)) _ _)), H', ⟨by have := HJ4.out; have := HK2.out; have := HK3.out; have := HJ26.out; omega⟩, ⟨by (with_reducible repeat (first | apply Kd.R_alloc | apply Kd.R_drewN | apply Kd.R_drew)); exact HO_7.out⟩, ⟨by (with_reducible repeat (first | apply Kd.R_alloc | apply Kd.R_drewN | apply Kd.R_drew)); exact HO_47.out⟩, ⟨by repeat (first | (with_reducible first | exact HB.out | apply below_alloc | apply pw_below_drewN | apply below_drew1) | exact HB.out)⟩⟩
                                            · rw [if_neg c40] at H
                                              exact absurd H (by simp)
                                      · replace c36 := Bool.eq_false_iff.mpr c36
                                        subst c36
                                        have H1 : (if x9_3 = true then (if x8_3 = true then (garretlaw17_PathTogether.l1 kj26 a1 t155 true true t155 (t155.length : Int) (wrap64 (x49_3 + 1))) else (garretlaw17_PathTogether.l1 kj26 a1 t155 false true t155 (t155.length : Int) (wrap64 (x49_3 + 1)))) else (if x8_3 = true then (garretlaw17_PathTogether.l1 kj26 a1 t155 true (!false) t155 (t155.length : Int) (wrap64 (x49_3 + 1))) else (garretlaw17_PathTogether.l1 kj26 a1 t155 false false t155 (t155.length : Int) (wrap64 (x49_3 + 1))))) = some r := by rw [if_neg (show ¬ (false = true) by decide)] at H; exact H
                                        clear H
                                        have H := H1
                                        clear H1
                                        by_cases c42 : x9_3 = true
                                        · subst c42
                                          have H1 : (if x8_3 = true then (garretlaw17_PathTogether.l1 kj26 a1 t155 true true t155 (t155.length : Int) (wrap64 (x49_3 + 1))) else (garretlaw17_PathTogether.l1 kj26 a1 t155 false true t155 (t155.length : Int) (wrap64 (x49_3 + 1)))) = some r := by rw [if_pos rfl] at H; exact H
                                          clear H
                                          have H := H1
                                          clear H1
                                          by_cases c43 : x8_3 = true
                                          · subst c43
                                            have H1 : (garretlaw17_PathTogether.l1 kj26 a1 t155 true true t155 (t155.length : Int) (wrap64 (x49_3 + 1))) = some r := by rw [if_pos rfl] at H; exact H
                                            clear H
                                            have H := H1
                                            clear H1
                                            have H' := Aside0.mk H
                                            clear H
                                            go_wp2_with (first | ((with_reducible refine gate_callee (f := 32) rfl ?_); refine goesL_ (some 68) rfl rfl Tryd.func32 (by kernel_rfl) rfl #[.string a1, .string (rdOf ByteArray.empty t155 x49_3)] rfl (by (try simp only [List.map_toArray, List.map_cons, List.map_nil]); first | done | rfl | (simp only [List.length_drop, List.length_take]; rfl)) ?_; (with_reducible refine (path_Within.calls kj26 a1 (rdOf ByteArray.empty t155 x49_3) t161 false _ ?side1 A35.out).mono ?_); (case side1 => first | exact HLAID.out | exact Laid.drewN HLAID.out _ | exact Laid.below HLAID.out (by repeat (first | (with_reducible first | exact HB.out | apply below_alloc | apply pw_below_drewN | apply below_drew1) | exact HB.out))); rintro e w44 ⟨rfl, hb⟩; refine ⟨_, rfl, ?_⟩; have n0_ := Aside0.mk (Kd.R_below (by (with_reducible repeat (first | apply Kd.R_alloc | apply Kd.R_drewN | apply Kd.R_drew)); exact HO_7.out) hb); have n1_ := Aside0.mk (Kd.R_below (by (with_reducible repeat (first | apply Kd.R_alloc | apply Kd.R_drewN | apply Kd.R_drew)); exact HO_47.out) hb); have n2_ := Aside0.mk (below_step (by repeat (first | (with_reducible first | exact HB.out | apply below_alloc | apply pw_below_drewN | apply below_drew1) | exact HB.out)) hb); clear HO_7; clear HO_47; clear HB; have HO_7 := n0_; have HO_47 := n1_; have HB := n2_; clear n0_ n1_ n2_; (try clear hb); (try clear hb2); (try clear hk); (try clear hi)))
                                            go_roundg kj26
                                            case measure => have := HJ4.out; have := HK2.out; have := HK3.out; have := HJ26.out; omega
                                            case rel => exact ⟨(true), (true), (wrap64 (x49_3 + 1)), (by first | rfl | (simp; done) | (simp [*]; done) | (simp; exact (by decide : ∀ p q : Bool, (p == q) = (!(p != q))) _ _) | (simp; exact (by decide : ∀ p q : Bool, (!(p != q)) = (p == q)) _ _)), (by first | rfl | (simp; done) | (simp [*]; done) | (simp; exact (by decide : ∀ p q : Bool, (p == q) = (!(p != q))) _ _) | (simp; exact (by decide : ∀ p q : Bool, (!(p != q)) = (p == q)) _ _)), (by first | rfl | (simp; done) | (simp [*]; done) | (simp; exact (by decide : ∀ p q : Bool, (p == q) = (!(p != q))) _ _) | (simp; exact (by decide : ∀ p q : Bool, (!(p != q)) = (p == q)) _ _)), H', ⟨by have := HJ4.out; have := HK2.out; have := HK3.out; have := HJ26.out; omega⟩, ⟨by (with_reducible repeat (first | apply Kd.R_alloc | apply Kd.R_drewN | apply Kd.R_drew)); exact HO_7.out⟩, ⟨by (with_reducible repeat (first | apply Kd.R_alloc | apply Kd.R_drewN | apply Kd.R_drew)); exact HO_47.out⟩, ⟨by repeat (first | (with_reducible first | exact HB.out | apply below_alloc | apply pw_below_drewN | apply below_drew1) | exact HB.out)⟩⟩
                                          · replace c43 := Bool.eq_false_iff.mpr c43
                                            subst c43
                                            have H1 : (garretlaw17_PathTogether.l1 kj26 a1 t155 false true t155 (t155.length : Int) (wrap64 (x49_3 + 1))) = some r := by rw [if_neg (show ¬ (false = true) by decide)] at H; exact H
                                            clear H
                                            have H := H1
                                            clear H1
                                            have H' := Aside0.mk H
                                            clear H
                                            go_wp2_with (first | ((with_reducible refine gate_callee (f := 32) rfl ?_); refine goesL_ (some 68) rfl rfl Tryd.func32 (by kernel_rfl) rfl #[.string a1, .string (rdOf ByteArray.empty t155 x49_3)] rfl (by (try simp only [List.map_toArray, List.map_cons, List.map_nil]); first | done | rfl | (simp only [List.length_drop, List.length_take]; rfl)) ?_; (with_reducible refine (path_Within.calls kj26 a1 (rdOf ByteArray.empty t155 x49_3) t161 false _ ?side1 A35.out).mono ?_); (case side1 => first | exact HLAID.out | exact Laid.drewN HLAID.out _ | exact Laid.below HLAID.out (by repeat (first | (with_reducible first | exact HB.out | apply below_alloc | apply pw_below_drewN | apply below_drew1) | exact HB.out))); rintro e w45 ⟨rfl, hb⟩; refine ⟨_, rfl, ?_⟩; have n0_ := Aside0.mk (Kd.R_below (by (with_reducible repeat (first | apply Kd.R_alloc | apply Kd.R_drewN | apply Kd.R_drew)); exact HO_7.out) hb); have n1_ := Aside0.mk (Kd.R_below (by (with_reducible repeat (first | apply Kd.R_alloc | apply Kd.R_drewN | apply Kd.R_drew)); exact HO_47.out) hb); have n2_ := Aside0.mk (below_step (by repeat (first | (with_reducible first | exact HB.out | apply below_alloc | apply pw_below_drewN | apply below_drew1) | exact HB.out)) hb); clear HO_7; clear HO_47; clear HB; have HO_7 := n0_; have HO_47 := n1_; have HB := n2_; clear n0_ n1_ n2_; (try clear hb); (try clear hb2); (try clear hk); (try clear hi)))
                                            go_roundg kj26
                                            case measure => have := HJ4.out; have := HK2.out; have := HK3.out; have := HJ26.out; omega
                                            case rel => exact ⟨(false), (true), (wrap64 (x49_3 + 1)), (by first | rfl | (simp; done) | (simp [*]; done) | (simp; exact (by decide : ∀ p q : Bool, (p == q) = (!(p != q))) _ _) | (simp; exact (by decide : ∀ p q : Bool, (!(p != q)) = (p == q)) _ _)), (by first | rfl | (simp; done) | (simp [*]; done) | (simp; exact (by decide : ∀ p q : Bool, (p == q) = (!(p != q))) _ _) | (simp; exact (by decide : ∀ p q : Bool, (!(p != q)) = (p == q)) _ _)), (by first | rfl | (simp; done) | (simp [*]; done) | (simp; exact (by decide : ∀ p q : Bool, (p == q) = (!(p != q))) _ _) | (simp; exact (by decide : ∀ p q : Bool, (!(p != q)) = (p == q)) _ _)), H', ⟨by have := HJ4.out; have := HK2.out; have := HK3.out; have := HJ26.out; omega⟩, ⟨by (with_reducible repeat (first | apply Kd.R_alloc | apply Kd.R_drewN | apply Kd.R_drew)); exact HO_7.out⟩, ⟨by (with_reducible repeat (first | apply Kd.R_alloc | apply Kd.R_drewN | apply Kd.R_drew)); exact HO_47.out⟩, ⟨by repeat (first | (with_reducible first | exact HB.out | apply below_alloc | apply pw_below_drewN | apply below_drew1) | exact HB.out)⟩⟩
                                        · replace c42 := Bool.eq_false_iff.mpr c42
                                          subst c42
                                          have H1 : (if x8_3 = true then (garretlaw17_PathTogether.l1 kj26 a1 t155 true (!false) t155 (t155.length : Int) (wrap64 (x49_3 + 1))) else (garretlaw17_PathTogether.l1 kj26 a1 t155 false false t155 (t155.length : Int) (wrap64 (x49_3 + 1)))) = some r := by rw [if_neg (show ¬ (false = true) by decide)] at H; exact H
                                          clear H
                                          have H := H1
                                          clear H1
                                          by_cases c46 : x8_3 = true
                                          · subst c46
                                            have H1 : (garretlaw17_PathTogether.l1 kj26 a1 t155 true (!false) t155 (t155.length : Int) (wrap64 (x49_3 + 1))) = some r := by rw [if_pos rfl] at H; exact H
                                            clear H
                                            have H := H1
                                            clear H1
                                            have H' := Aside0.mk H
                                            clear H
                                            go_wp2_with (first | ((with_reducible refine gate_callee (f := 32) rfl ?_); refine goesL_ (some 68) rfl rfl Tryd.func32 (by kernel_rfl) rfl #[.string a1, .string (rdOf ByteArray.empty t155 x49_3)] rfl (by (try simp only [List.map_toArray, List.map_cons, List.map_nil]); first | done | rfl | (simp only [List.length_drop, List.length_take]; rfl)) ?_; (with_reducible refine (path_Within.calls kj26 a1 (rdOf ByteArray.empty t155 x49_3) t161 false _ ?side1 A35.out).mono ?_); (case side1 => first | exact HLAID.out | exact Laid.drewN HLAID.out _ | exact Laid.below HLAID.out (by repeat (first | (with_reducible first | exact HB.out | apply below_alloc | apply pw_below_drewN | apply below_drew1) | exact HB.out))); rintro e w47 ⟨rfl, hb⟩; refine ⟨_, rfl, ?_⟩; have n0_ := Aside0.mk (Kd.R_below (by (with_reducible repeat (first | apply Kd.R_alloc | apply Kd.R_drewN | apply Kd.R_drew)); exact HO_7.out) hb); have n1_ := Aside0.mk (Kd.R_below (by (with_reducible repeat (first | apply Kd.R_alloc | apply Kd.R_drewN | apply Kd.R_drew)); exact HO_47.out) hb); have n2_ := Aside0.mk (below_step (by repeat (first | (with_reducible first | exact HB.out | apply below_alloc | apply pw_below_drewN | apply below_drew1) | exact HB.out)) hb); clear HO_7; clear HO_47; clear HB; have HO_7 := n0_; have HO_47 := n1_; have HB := n2_; clear n0_ n1_ n2_; (try clear hb); (try clear hb2); (try clear hk); (try clear hi)))
                                            go_roundg kj26
                                            case measure => have := HJ4.out; have := HK2.out; have := HK3.out; have := HJ26.out; omega
                                            case rel => exact ⟨(true), (!false), (wrap64 (x49_3 + 1)), (by first | rfl | (simp; done) | (simp [*]; done) | (simp; exact (by decide : ∀ p q : Bool, (p == q) = (!(p != q))) _ _) | (simp; exact (by decide : ∀ p q : Bool, (!(p != q)) = (p == q)) _ _)), (by first | rfl | (simp; done) | (simp [*]; done) | (simp; exact (by decide : ∀ p q : Bool, (p == q) = (!(p != q))) _ _) | (simp; exact (by decide : ∀ p q : Bool, (!(p != q)) = (p == q)) _ _)), (by first | rfl | (simp; done) | (simp [*]; done) | (simp; exact (by decide : ∀ p q : Bool, (p == q) = (!(p != q))) _ _) | (simp; exact (by decide : ∀ p q : Bool, (!(p != q)) = (p == q)) _ _)), H', ⟨by have := HJ4.out; have := HK2.out; have := HK3.out; have := HJ26.out; omega⟩, ⟨by (with_reducible repeat (first | apply Kd.R_alloc | apply Kd.R_drewN | apply Kd.R_drew)); exact HO_7.out⟩, ⟨by (with_reducible repeat (first | apply Kd.R_alloc | apply Kd.R_drewN | apply Kd.R_drew)); exact HO_47.out⟩, ⟨by repeat (first | (with_reducible first | exact HB.out | apply below_alloc | apply pw_below_drewN | apply below_drew1) | exact HB.out)⟩⟩
                                          · replace c46 := Bool.eq_false_iff.mpr c46
                                            subst c46
                                            have H1 : (garretlaw17_PathTogether.l1 kj26 a1 t155 false false t155 (t155.length : Int) (wrap64 (x49_3 + 1))) = some r := by rw [if_neg (show ¬ (false = true) by decide)] at H; exact H
                                            clear H
                                            have H := H1
                                            clear H1
                                            have H' := Aside0.mk H
                                            clear H
                                            go_wp2_with (first | ((with_reducible refine gate_callee (f := 32) rfl ?_); refine goesL_ (some 68) rfl rfl Tryd.func32 (by kernel_rfl) rfl #[.string a1, .string (rdOf ByteArray.empty t155 x49_3)] rfl (by (try simp only [List.map_toArray, List.map_cons, List.map_nil]); first | done | rfl | (simp only [List.length_drop, List.length_take]; rfl)) ?_; (with_reducible refine (path_Within.calls kj26 a1 (rdOf ByteArray.empty t155 x49_3) t161 false _ ?side1 A35.out).mono ?_); (case side1 => first | exact HLAID.out | exact Laid.drewN HLAID.out _ | exact Laid.below HLAID.out (by repeat (first | (with_reducible first | exact HB.out | apply below_alloc | apply pw_below_drewN | apply below_drew1) | exact HB.out))); rintro e w48 ⟨rfl, hb⟩; refine ⟨_, rfl, ?_⟩; have n0_ := Aside0.mk (Kd.R_below (by (with_reducible repeat (first | apply Kd.R_alloc | apply Kd.R_drewN | apply Kd.R_drew)); exact HO_7.out) hb); have n1_ := Aside0.mk (Kd.R_below (by (with_reducible repeat (first | apply Kd.R_alloc | apply Kd.R_drewN | apply Kd.R_drew)); exact HO_47.out) hb); have n2_ := Aside0.mk (below_step (by repeat (first | (with_reducible first | exact HB.out | apply below_alloc | apply pw_below_drewN | apply below_drew1) | exact HB.out)) hb); clear HO_7; clear HO_47; clear HB; have HO_7 := n0_; have HO_47 := n1_; have HB := n2_; clear n0_ n1_ n2_; (try clear hb); (try clear hb2); (try clear hk); (try clear hi)))
                                            go_roundg kj26
                                            case measure => have := HJ4.out; have := HK2.out; have := HK3.out; have := HJ26.out; omega
                                            case rel => exact ⟨(false), (false), (wrap64 (x49_3 + 1)), (by first | rfl | (simp; done) | (simp [*]; done) | (simp; exact (by decide : ∀ p q : Bool, (p == q) = (!(p != q))) _ _) | (simp; exact (by decide : ∀ p q : Bool, (!(p != q)) = (p == q)) _ _)), (by first | rfl | (simp; done) | (simp [*]; done) | (simp; exact (by decide : ∀ p q : Bool, (p == q) = (!(p != q))) _ _) | (simp; exact (by decide : ∀ p q : Bool, (!(p != q)) = (p == q)) _ _)), (by first | rfl | (simp; done) | (simp [*]; done) | (simp; exact (by decide : ∀ p q : Bool, (p == q) = (!(p != q))) _ _) | (simp; exact (by decide : ∀ p q : Bool, (!(p != q)) = (p == q)) _ _)), H', ⟨by have := HJ4.out; have := HK2.out; have := HK3.out; have := HJ26.out; omega⟩, ⟨by (with_reducible repeat (first | apply Kd.R_alloc | apply Kd.R_drewN | apply Kd.R_drew)); exact HO_7.out⟩, ⟨by (with_reducible repeat (first | apply Kd.R_alloc | apply Kd.R_drewN | apply Kd.R_drew)); exact HO_47.out⟩, ⟨by repeat (first | (with_reducible first | exact HB.out | apply below_alloc | apply pw_below_drewN | apply below_drew1) | exact HB.out)⟩⟩
                              · rw [if_neg c26] at H
                                exact absurd H (by simp)
                            · rw [if_neg c25] at H
                              exact absurd H (by simp)
                          · rw [if_neg c24] at H
                            have c24b0 : decide (x49_3 < (t155.length : Int)) = false := decide_eq_false c24
                            clear c24
                            obtain rfl := Option.some.inj H
                            go_wp2
                            go_ret
                            exact ⟨by first | rfl | (simp [errW_none, errW_some] <;> rfl) | (simp [*, errW_none, errW_some] <;> rfl), by repeat (first | (with_reducible first | exact HB.out | apply below_alloc | apply pw_below_drewN | apply below_drew1) | exact HB.out)⟩
                    · rw [if_neg c16] at H
                      exact absurd H (by simp)
                  · rw [if_neg c14] at H
                    exact absurd H (by simp)
                · rw [if_neg c13] at H
                  exact absurd H (by simp)
  · replace c4 := Bool.eq_false_iff.mpr c4
    subst c4
    have H1 : (none) = some r := by rw [if_neg (show ¬ (false = true) by decide)] at H; exact H
    clear H
    have H := H1
    clear H1
    exact absurd H (by simp)

/-- THE ONE PURE STATEMENT of garretlaw17_PathTogether: yours. -/
def garretlaw17_PathTogether.Pure : Prop := ∀ (l0 : List ByteArray) (a1 : ByteArray), (l0.length ≤ maxLen ∧ l0.length * 16 ≤ 140737488351232 ∧ ∀ l0y ∈ l0, l0y.size ≤ 140737488351232) → (a1.size ≤ 140737488351232) → ∃ k, garretlaw17_PathTogether.f k l0 a1 = some true
theorem garretlaw17_PathTogether.walk (P : garretlaw17_PathTogether.Pure) (A0 : Option Addr) (c0 : Nat) (l0 : List ByteArray) (a1 : ByteArray) (w : World) (hr0 : Kd.C Kd.string w A0 l0.length l0) (hc0 : l0.length ≤ c0) (hL : Laid w) (o0 : (l0.length ≤ maxLen ∧ l0.length * 16 ≤ 140737488351232 ∧ ∀ l0y ∈ l0, l0y.size ≤ 140737488351232)) (o1 : (a1.size ≤ 140737488351232)) :
    Calls Tryd.prog 9 #[.slice A0 l0.length c0, .string a1] w fun e w' => e = .returned (.bool true) ∧ Below w.heap.size w w' := by
  obtain ⟨k, h⟩ := P l0 a1 o0 o1
  refine (garretlaw17_PathTogether.calls k A0 c0 l0 a1 true w hr0 hc0 hL h).mono ?_
  rintro e w' ⟨rfl, hd⟩
  exact ⟨rfl, hd⟩

end Go.Proofs.YtcmajhdgaeploaaDoor.QPthT
