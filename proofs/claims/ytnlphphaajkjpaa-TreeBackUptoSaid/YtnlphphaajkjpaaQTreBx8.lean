-- Written for this claim by a program of this session.
import Derived.Test.YtnlphphaajkjpaaQTreBx0
import Derived.Test.YtnlphphaajkjpaaQTreBx1
import Derived.Test.YtnlphphaajkjpaaQTreBx4
import Derived.Test.YtnlphphaajkjpaaQTreBx6
import Derived.Test.YtnlphphaajkjpaaQTreBx7
namespace Go.Proofs.Ytnlphphaajkjpaa.QTreB
open Go.RowKit Go.Proofs.YtnlphphaajkjpaaW.PrintWords Go.Proofs.YtnlphphaajkjpaaW.PrintLast Go.Proofs.YtnlphphaajkjpaaW.PrintMore
attribute [local go_sem] max2_int min2_int max_two min_two max_three min_three max_four min_four   -- for this text's walks alone
set_option linter.unusedVariables false
set_option linter.unusedSimpArgs false

/-! ### garretlaw19_TreeBack: function 6 -/
mutual
def garretlaw19_TreeBack.j0 : Nat → List (S24) → ByteArray → Int → Bool → Option (Bool)
  | 0, _, _, _, _ => none
  | k + 1, x0, x1, x2, x26 => if x26 = true then (some true) else ((tree_Encode.f k x0).bind fun bt260 => (if bt260.2 = 0 then ((tree_Decode.f k bt260.1).bind fun bt262 => ((garretbook_Among.f x2 (bt260.1.size : Int)).bind fun t266 => (if 0 ≤ t266 then (if t266 ≤ (bt260.1.size : Int) then ((tree_Decode.f k (bt260.1.extract 0 (t266 : Int).toNat)).bind fun bt267 => (if bt262.2 = 0 then ((garretlaw19_sameNodes.f k bt262.1 x0).bind fun t271 => (if t271 = true then (if bt267.2 = 190 then (garretlaw19_TreeBack.j1 k x1) else (none)) else (none))) else (none))) else (none)) else (none)))) else (garretlaw19_TreeBack.j1 k x1)))
def garretlaw19_TreeBack.j1 : Nat → ByteArray → Option (Bool)
  | 0, _ => none
  | k + 1, x1 => (tree_Decode.f k x1).bind fun bt272 => (if bt272.2 = 0 then ((tree_Encode.f k bt272.1).bind fun bt276 => (if bt276.2 = 0 then (some (bt276.1.toList == x1.toList)) else (none))) else (some true))
end
def garretlaw19_TreeBack.f (k : Nat) (l0 : List (S24)) (a1 : ByteArray) (a2 : Int) : Option (Bool) := (garretlaw19_works.f k).bind fun t258 => (if t258 = true then ((garretlaw19_short.f k l0).bind fun t259 => (if t259 = true then (garretlaw19_TreeBack.j0 k l0 a1 a2 (decide ((a1.size : Int) > 10000))) else (garretlaw19_TreeBack.j0 k l0 a1 a2 true))) else (none))
theorem garretlaw19_TreeBack.mono_l : ∀ k, (∀ y0 y1 y2 y3, LeO (garretlaw19_TreeBack.j0 k y0 y1 y2 y3) (garretlaw19_TreeBack.j0 (k + 1) y0 y1 y2 y3)) ∧ (∀ y0, LeO (garretlaw19_TreeBack.j1 k y0) (garretlaw19_TreeBack.j1 (k + 1) y0))
  | 0 => ⟨fun _ _ _ _ r h => by simp [garretlaw19_TreeBack.j0] at h, fun _ r h => by simp [garretlaw19_TreeBack.j1] at h⟩
  | k + 1 => by
    obtain ⟨ih0, ih1⟩ := garretlaw19_TreeBack.mono_l k
    refine ⟨?_, ?_⟩
    · intro y0 y1 y2 y3
      unfold garretlaw19_TreeBack.j0
      repeat' first
      | (with_reducible exact ih0 _ _ _ _)
      | (with_reducible exact ih1 _)
      | (with_reducible exact garretlaw19_sameNodes.mono _ _ _)
      | (with_reducible exact garretlaw19_short.mono _ _)
      | (with_reducible exact garretlaw19_works.mono _)
      | (with_reducible exact tree_Decode.mono _ _)
      | (with_reducible exact tree_Encode.mono _ _)
      | (with_reducible exact LeO.refl _)
      | (with_reducible exact LeO.none _)
      | (with_reducible refine LeO.ite ?_ ?_)
      | (with_reducible refine LeO.bind ?_ (fun _ => ?_))
      | exact ih0 _ _ _ _
      | exact ih1 _
      | exact garretlaw19_sameNodes.mono _ _ _
      | exact garretlaw19_short.mono _ _
      | exact garretlaw19_works.mono _
      | exact tree_Decode.mono _ _
      | exact tree_Encode.mono _ _
      | exact LeO.none _
      | refine LeO.ite ?_ ?_
      | refine LeO.bind ?_ (fun _ => ?_)
    · intro y0
      unfold garretlaw19_TreeBack.j1
      repeat' first
      | (with_reducible exact ih0 _ _ _ _)
      | (with_reducible exact ih1 _)
      | (with_reducible exact garretlaw19_sameNodes.mono _ _ _)
      | (with_reducible exact garretlaw19_short.mono _ _)
      | (with_reducible exact garretlaw19_works.mono _)
      | (with_reducible exact tree_Decode.mono _ _)
      | (with_reducible exact tree_Encode.mono _ _)
      | (with_reducible exact LeO.refl _)
      | (with_reducible exact LeO.none _)
      | (with_reducible refine LeO.ite ?_ ?_)
      | (with_reducible refine LeO.bind ?_ (fun _ => ?_))
      | exact ih0 _ _ _ _
      | exact ih1 _
      | exact garretlaw19_sameNodes.mono _ _ _
      | exact garretlaw19_short.mono _ _
      | exact garretlaw19_works.mono _
      | exact tree_Decode.mono _ _
      | exact tree_Encode.mono _ _
      | exact LeO.none _
      | refine LeO.ite ?_ ?_
      | refine LeO.bind ?_ (fun _ => ?_)
theorem garretlaw19_TreeBack.mono : ∀ a0 a1 a2 k, LeO (garretlaw19_TreeBack.f k a0 a1 a2) (garretlaw19_TreeBack.f (k + 1) a0 a1 a2) := by
  intro a0 a1 a2 k
  obtain ⟨ih0, ih1⟩ := garretlaw19_TreeBack.mono_l k
  unfold garretlaw19_TreeBack.f
  repeat' first
      | (with_reducible exact ih0 _ _ _ _)
      | (with_reducible exact ih1 _)
      | (with_reducible exact garretlaw19_sameNodes.mono _ _ _)
      | (with_reducible exact garretlaw19_short.mono _ _)
      | (with_reducible exact garretlaw19_works.mono _)
      | (with_reducible exact tree_Decode.mono _ _)
      | (with_reducible exact tree_Encode.mono _ _)
      | (with_reducible exact LeO.refl _)
      | (with_reducible exact LeO.none _)
      | (with_reducible refine LeO.ite ?_ ?_)
      | (with_reducible refine LeO.bind ?_ (fun _ => ?_))
      | exact ih0 _ _ _ _
      | exact ih1 _
      | exact garretlaw19_sameNodes.mono _ _ _
      | exact garretlaw19_short.mono _ _
      | exact garretlaw19_works.mono _
      | exact tree_Decode.mono _ _
      | exact tree_Encode.mono _ _
      | exact LeO.none _
      | refine LeO.ite ?_ ?_
      | refine LeO.bind ?_ (fun _ => ?_)
set_option maxHeartbeats 8000000 in
set_option maxRecDepth 100000 in
theorem garretlaw19_TreeBack.calls (k : Nat) (A0 : Option Addr) (c0 : Nat) (l0 : List (S24)) (a1 : ByteArray) (a2 : Int) (r : Bool) (w : World) (hr0 : Kd.C k24 w A0 l0.length l0) (hc0 : l0.length ≤ c0) (h : garretlaw19_TreeBack.f k l0 a1 a2 = some r) :
    Calls Try.prog 6 #[.slice A0 l0.length c0, .string a1, .int .i64 a2] w fun e w' => e = .returned (.bool r) ∧ Below w.heap.size w w' := by
  have HR0 := Aside0.mk hr0
  have HC0 := Aside0.mk hc0
  clear hr0 hc0
  have HB := Aside0.mk (Below.refl w.heap.size w)
  have H : ((garretlaw19_works.f k).bind fun t258 => (if t258 = true then ((garretlaw19_short.f k l0).bind fun t259 => (if t259 = true then (garretlaw19_TreeBack.j0 k l0 a1 a2 (decide ((a1.size : Int) > 10000))) else (garretlaw19_TreeBack.j0 k l0 a1 a2 true))) else (none))) = some r := h
  clear h
  replace H := Option.bind_eq_some_iff.mp H
  obtain ⟨t258, A40, H⟩ := H
  replace H : (if t258 = true then ((garretlaw19_short.f k l0).bind fun t259 => (if t259 = true then (garretlaw19_TreeBack.j0 k l0 a1 a2 (decide ((a1.size : Int) > 10000))) else (garretlaw19_TreeBack.j0 k l0 a1 a2 true))) else (none)) = some r := H
  have A4 := Aside0.mk A40
  clear A40
  by_cases c5 : t258 = true
  · subst c5
    have H1 : ((garretlaw19_short.f k l0).bind fun t259 => (if t259 = true then (garretlaw19_TreeBack.j0 k l0 a1 a2 (decide ((a1.size : Int) > 10000))) else (garretlaw19_TreeBack.j0 k l0 a1 a2 true))) = some r := by rw [if_pos rfl] at H; exact H
    clear H
    have H := H1
    clear H1
    have HC6 := Aside0.mk H
    clear H
    go_enter Try.func6, Try.ntmps6
    go_upto_region 3 with (first | ((with_reducible refine gate_callee (f := 17) rfl ?_); refine goesL_ (some 17) rfl rfl Try.func17 (by kernel_rfl) rfl #[] rfl (by (try simp only [List.map_toArray, List.map_cons, List.map_nil]); first | done | rfl | (simp only [List.length_drop, List.length_take]; rfl)) ?_; (with_reducible refine (garretlaw19_works.calls k  true _ A4.out).mono ?_); rintro e w7 ⟨rfl, hb⟩; refine ⟨_, rfl, ?_⟩; have n0_ := Aside0.mk (below_step (by repeat (first | (with_reducible first | exact HB.out | apply below_alloc | apply pw_below_drewN | apply below_drew1) | exact HB.out)) hb); clear HB; have HB := n0_; clear n0_; (try clear hb); (try clear hb2); (try clear hk); (try clear hi)))
    (try simp only [Act.put, List.setIfInBounds_toArray, List.set_cons_zero, List.set_cons_succ])
    go_cut [26] (fun v26 wc => ∃ (kq : Nat) (x26_5 : Bool), v26 = .bool x26_5 ∧ Aside0 (garretlaw19_TreeBack.j0 kq l0 a1 a2 x26_5 = some r) ∧ Aside0 (kq ≤ k) ∧ Aside0 (Below w.heap.size w wc))
    case first =>
      have H := HC6.out
      clear HC6
      replace H := Option.bind_eq_some_iff.mp H
      obtain ⟨t259, A80, H⟩ := H
      replace H : (if t259 = true then (garretlaw19_TreeBack.j0 k l0 a1 a2 (decide ((a1.size : Int) > 10000))) else (garretlaw19_TreeBack.j0 k l0 a1 a2 true)) = some r := H
      have A8 := Aside0.mk A80
      clear A80
      by_cases c9 : t259 = true
      · subst c9
        have H1 : (garretlaw19_TreeBack.j0 k l0 a1 a2 (decide ((a1.size : Int) > 10000))) = some r := by rw [if_pos rfl] at H; exact H
        clear H
        have H := H1
        clear H1
        have H' := Aside0.mk H
        clear H
        go_wp2_with (first | ((with_reducible refine gate_callee (f := 18) rfl ?_); refine goesL_ (some 20) rfl rfl Try.func18 (by kernel_rfl) rfl #[.slice A0 l0.length c0] rfl (by (try simp only [List.map_toArray, List.map_cons, List.map_nil]); first | done | rfl | (simp only [List.length_drop, List.length_take]; rfl)) ?_; (with_reducible refine (garretlaw19_short.calls k _ _ l0 true _ ?side1 ?side2 A8.out).mono ?_); (case side1 => repeat (first | exact (Kd.C_below HR0.out HB.out) | (with_reducible refine Kd.C_alloc ?_ _) | (with_reducible refine Kd.C_drewN ?_ _) | (with_reducible refine Kd.C_drew ?_))); (case side2 => exact HC0.out); rintro e w' ⟨rfl, ⟨nd, rfl⟩⟩; refine ⟨_, rfl, ?_⟩))
        go_meet
        case rel => exact ⟨_, (decide ((a1.size : Int) > 10000)), (by first | rfl | (simp; done) | (simp [*]; done) | (simp; exact (by decide : ∀ p q : Bool, (p == q) = (!(p != q))) _ _) | (simp; exact (by decide : ∀ p q : Bool, (!(p != q)) = (p == q)) _ _)), H', ⟨by first | omega | exact Nat.le_refl _⟩, ⟨by repeat (first | (with_reducible first | exact HB.out | apply below_alloc | apply pw_below_drewN | apply below_drew1) | exact HB.out)⟩⟩
      · replace c9 := Bool.eq_false_iff.mpr c9
        subst c9
        have H1 : (garretlaw19_TreeBack.j0 k l0 a1 a2 true) = some r := by rw [if_neg (show ¬ (false = true) by decide)] at H; exact H
        clear H
        have H := H1
        clear H1
        have H' := Aside0.mk H
        clear H
        go_wp2_with (first | ((with_reducible refine gate_callee (f := 18) rfl ?_); refine goesL_ (some 20) rfl rfl Try.func18 (by kernel_rfl) rfl #[.slice A0 l0.length c0] rfl (by (try simp only [List.map_toArray, List.map_cons, List.map_nil]); first | done | rfl | (simp only [List.length_drop, List.length_take]; rfl)) ?_; (with_reducible refine (garretlaw19_short.calls k _ _ l0 false _ ?side1 ?side2 A8.out).mono ?_); (case side1 => repeat (first | exact (Kd.C_below HR0.out HB.out) | (with_reducible refine Kd.C_alloc ?_ _) | (with_reducible refine Kd.C_drewN ?_ _) | (with_reducible refine Kd.C_drew ?_))); (case side2 => exact HC0.out); rintro e w' ⟨rfl, ⟨nd, rfl⟩⟩; refine ⟨_, rfl, ?_⟩))
        go_meet
        case rel => exact ⟨_, (true), (by first | rfl | (simp; done) | (simp [*]; done) | (simp; exact (by decide : ∀ p q : Bool, (p == q) = (!(p != q))) _ _) | (simp; exact (by decide : ∀ p q : Bool, (!(p != q)) = (p == q)) _ _)), H', ⟨by first | omega | exact Nat.le_refl _⟩, ⟨by repeat (first | (with_reducible first | exact HB.out | apply below_alloc | apply pw_below_drewN | apply below_drew1) | exact HB.out)⟩⟩
    case rest =>
      clear HC6
      try clear c1
      try clear p2
      try clear c5
      try clear c6
      try clear c9
      obtain ⟨kq, x26_5, rfl, HA, HJ5, HB⟩ := hcut
      cases kq with
      | zero => exact absurd HA.out (by simp [garretlaw19_TreeBack.j0])
      | succ kj5 =>
        have H := HA.out
        clear HA
        simp only [garretlaw19_TreeBack.j0] at H
        by_cases c10 : x26_5 = true
        · subst c10
          have H1 : (some true) = some r := by rw [if_pos rfl] at H; exact H
          clear H
          have H := H1
          clear H1
          obtain rfl := Option.some.inj H
          go_wp2
          go_ret
          exact ⟨by first | rfl | (simp [errW_none, errW_some] <;> rfl) | (simp [*, errW_none, errW_some] <;> rfl), by repeat (first | (with_reducible first | exact HB.out | apply below_alloc | apply pw_below_drewN | apply below_drew1) | exact HB.out)⟩
        · replace c10 := Bool.eq_false_iff.mpr c10
          subst c10
          have H1 : ((tree_Encode.f kj5 l0).bind fun bt260 => (if bt260.2 = 0 then ((tree_Decode.f kj5 bt260.1).bind fun bt262 => ((garretbook_Among.f a2 (bt260.1.size : Int)).bind fun t266 => (if 0 ≤ t266 then (if t266 ≤ (bt260.1.size : Int) then ((tree_Decode.f kj5 (bt260.1.extract 0 (t266 : Int).toNat)).bind fun bt267 => (if bt262.2 = 0 then ((garretlaw19_sameNodes.f kj5 bt262.1 l0).bind fun t271 => (if t271 = true then (if bt267.2 = 190 then (garretlaw19_TreeBack.j1 kj5 a1) else (none)) else (none))) else (none))) else (none)) else (none)))) else (garretlaw19_TreeBack.j1 kj5 a1))) = some r := by rw [if_neg (show ¬ (false = true) by decide)] at H; exact H
          clear H
          have H := H1
          clear H1
          replace H := Option.bind_eq_some_iff.mp H
          obtain ⟨⟨t260, t261⟩, A110, H⟩ := H
          replace H : (if t261 = 0 then ((tree_Decode.f kj5 t260).bind fun bt262 => ((garretbook_Among.f a2 (t260.size : Int)).bind fun t266 => (if 0 ≤ t266 then (if t266 ≤ (t260.size : Int) then ((tree_Decode.f kj5 (t260.extract 0 (t266 : Int).toNat)).bind fun bt267 => (if bt262.2 = 0 then ((garretlaw19_sameNodes.f kj5 bt262.1 l0).bind fun t271 => (if t271 = true then (if bt267.2 = 190 then (garretlaw19_TreeBack.j1 kj5 a1) else (none)) else (none))) else (none))) else (none)) else (none)))) else (garretlaw19_TreeBack.j1 kj5 a1)) = some r := H
          have A11 := Aside0.mk A110
          clear A110
          have HC12 := Aside0.mk H
          clear H
          go_upto_if 33 with (first | ((with_reducible refine gate_callee (f := 19) rfl ?_); refine goesL_ (some 29) rfl rfl Try.func19 (by kernel_rfl) rfl #[.slice A0 l0.length c0] rfl (by (try simp only [List.map_toArray, List.map_cons, List.map_nil]); first | done | rfl | (simp only [List.length_drop, List.length_take]; rfl)) ?_; (with_reducible refine (tree_Encode.calls kj5 _ _ l0 t260 t261 _ ?side1 ?side2 A11.out).mono ?_); (case side1 => repeat (first | exact (Kd.C_below HR0.out HB.out) | (with_reducible refine Kd.C_alloc ?_ _) | (with_reducible refine Kd.C_drewN ?_ _) | (with_reducible refine Kd.C_drew ?_))); (case side2 => exact HC0.out); rintro e w13 ⟨rfl, hb⟩; refine ⟨_, rfl, ?_⟩; have n0_ := Aside0.mk (below_step (by repeat (first | (with_reducible first | exact HB.out | apply below_alloc | apply pw_below_drewN | apply below_drew1) | exact HB.out)) hb); clear HB; have HB := n0_; clear n0_; (try clear hb); (try clear hb2); (try clear hk); (try clear hi)))
          (try simp only [Act.put, List.setIfInBounds_toArray, List.set_cons_zero, List.set_cons_succ])
          go_cut [] (fun wc => ∃ (kq : Nat), Aside0 (garretlaw19_TreeBack.j1 kq a1 = some r) ∧ Aside0 (kq ≤ kj5) ∧ Aside0 (Below w.heap.size w wc))
          case first =>
            have H := HC12.out
            clear HC12
            by_cases c14 : t261 = 0
            · rw [if_pos c14] at H
              have c14b0 : (t261 == 0) = true := beq_iff_eq.mpr c14
              have c14b1 : (t261 != 0) = false := bne_eq_false_iff_eq.mpr c14
              clear c14
              (first | rw [c14b0] | (simp only [i64_w, i32_w]; rw [c14b0]) | skip)
              replace H := Option.bind_eq_some_iff.mp H
              obtain ⟨⟨t262, t263⟩, A150, H⟩ := H
              replace H : ((garretbook_Among.f a2 (t260.size : Int)).bind fun t266 => (if 0 ≤ t266 then (if t266 ≤ (t260.size : Int) then ((tree_Decode.f kj5 (t260.extract 0 (t266 : Int).toNat)).bind fun bt267 => (if t263 = 0 then ((garretlaw19_sameNodes.f kj5 t262 l0).bind fun t271 => (if t271 = true then (if bt267.2 = 190 then (garretlaw19_TreeBack.j1 kj5 a1) else (none)) else (none))) else (none))) else (none)) else (none))) = some r := H
              have A15 := Aside0.mk A150
              clear A150
              replace H := Option.bind_eq_some_iff.mp H
              obtain ⟨t266, A160, H⟩ := H
              replace H : (if 0 ≤ t266 then (if t266 ≤ (t260.size : Int) then ((tree_Decode.f kj5 (t260.extract 0 (t266 : Int).toNat)).bind fun bt267 => (if t263 = 0 then ((garretlaw19_sameNodes.f kj5 t262 l0).bind fun t271 => (if t271 = true then (if bt267.2 = 190 then (garretlaw19_TreeBack.j1 kj5 a1) else (none)) else (none))) else (none))) else (none)) else (none)) = some r := H
              have A16 := Aside0.mk A160
              clear A160
              by_cases c17 : 0 ≤ t266
              · rw [if_pos c17] at H
                have c17b0 := eq_true c17
                have c17b1 : decide (0 ≤ t266) = true := decide_eq_true c17
                clear c17
                by_cases c18 : t266 ≤ (t260.size : Int)
                · rw [if_pos c18] at H
                  have c18b0 := eq_true c18
                  have c18b1 : decide (t266 ≤ (t260.size : Int)) = true := decide_eq_true c18
                  clear c18
                  replace H := Option.bind_eq_some_iff.mp H
                  obtain ⟨⟨t267, t268⟩, A190, H⟩ := H
                  replace H : (if t263 = 0 then ((garretlaw19_sameNodes.f kj5 t262 l0).bind fun t271 => (if t271 = true then (if t268 = 190 then (garretlaw19_TreeBack.j1 kj5 a1) else (none)) else (none))) else (none)) = some r := H
                  have A19 := Aside0.mk A190
                  clear A190
                  by_cases c20 : t263 = 0
                  · rw [if_pos c20] at H
                    have c20b0 : (t263 == 0) = true := beq_iff_eq.mpr c20
                    have c20b1 : (t263 != 0) = false := bne_eq_false_iff_eq.mpr c20
                    clear c20
                    replace H := Option.bind_eq_some_iff.mp H
                    obtain ⟨t271, A210, H⟩ := H
                    replace H : (if t271 = true then (if t268 = 190 then (garretlaw19_TreeBack.j1 kj5 a1) else (none)) else (none)) = some r := H
                    have A21 := Aside0.mk A210
                    clear A210
                    by_cases c22 : t271 = true
                    · subst c22
                      have H1 : (if t268 = 190 then (garretlaw19_TreeBack.j1 kj5 a1) else (none)) = some r := by rw [if_pos rfl] at H; exact H
                      clear H
                      have H := H1
                      clear H1
                      by_cases c23 : t268 = 190
                      · rw [if_pos c23] at H
                        have c23b0 : (t268 == 190) = true := beq_iff_eq.mpr c23
                        have c23b1 : (t268 != 190) = false := bne_eq_false_iff_eq.mpr c23
                        clear c23
                        have H' := Aside0.mk H
                        clear H
                        go_wp2_with (first | ((with_reducible refine gate_callee (f := 20) rfl ?_); refine goesL_ (some 36) rfl rfl Try.func20 (by kernel_rfl) rfl #[.string t260] rfl (by (try simp only [List.map_toArray, List.map_cons, List.map_nil]); first | done | rfl | (simp only [List.length_drop, List.length_take]; rfl)) ?_; (with_reducible refine (tree_Decode.calls kj5 t260 t262 t263 _ A15.out).mono ?_); rintro e w24 ⟨v264, rfl, ho0, hb⟩; refine ⟨_, rfl, ?_⟩; have n0_ := Aside0.mk (Kd.S_lower ho0 (below_size (by repeat (first | (with_reducible first | exact HB.out | apply below_alloc | apply pw_below_drewN | apply below_drew1) | exact HB.out)))); have n1_ := Aside0.mk (below_step (by repeat (first | (with_reducible first | exact HB.out | apply below_alloc | apply pw_below_drewN | apply below_drew1) | exact HB.out)) hb); clear HB; have HO265 := n0_; have HB := n1_; clear n0_ n1_; (try clear hb); (try clear hb2); (try clear hk); (try clear hi); (try clear ho0)) | ((with_reducible refine gate_callee (f := 10) rfl ?_); refine goesL_ (some 44) rfl rfl Try.func10 (by kernel_rfl) rfl #[.int .i64 a2, .int .i64 (t260.size : Int)] rfl (by (try simp only [List.map_toArray, List.map_cons, List.map_nil]); first | done | rfl | (simp only [List.length_drop, List.length_take]; rfl)) ?_; (with_reducible refine (garretbook_Among.calls a2 (t260.size : Int) t266 _ A16.out).mono ?_); rintro e w' ⟨rfl, ⟨nd, rfl⟩⟩; refine ⟨_, rfl, ?_⟩) | ((with_reducible refine gate_callee (f := 20) rfl ?_); refine goesL_ (some 46) rfl rfl Try.func20 (by kernel_rfl) rfl #[.string (t260.extract 0 (t266 : Int).toNat)] rfl (by (try simp only [List.map_toArray, List.map_cons, List.map_nil]); first | done | rfl | (simp only [List.length_drop, List.length_take]; rfl)) ?_; (with_reducible refine (tree_Decode.calls kj5 (t260.extract 0 (t266 : Int).toNat) t267 t268 _ A19.out).mono ?_); rintro e w25 ⟨v269, rfl, ho0, hb⟩; refine ⟨_, rfl, ?_⟩; have n0_ := Aside0.mk (Kd.S_elder' (by (with_reducible repeat (first | apply Kd.S_alloc | apply Kd.S_drewN | apply Kd.S_drew)); exact HO265.out) (Kd.S_base ho0) hb); have n1_ := Aside0.mk (Kd.S_lower (Kd.S_new' ho0 (Kd.S_lt (by (with_reducible repeat (first | apply Kd.S_alloc | apply Kd.S_drewN | apply Kd.S_drew)); exact HO265.out))) (below_size (by repeat (first | (with_reducible first | exact HB.out | apply below_alloc | apply pw_below_drewN | apply below_drew1) | exact HB.out)))); have n2_ := Aside0.mk (below_step (by repeat (first | (with_reducible first | exact HB.out | apply below_alloc | apply pw_below_drewN | apply below_drew1) | exact HB.out)) hb); clear HO265; clear HB; have HO265 := n0_; have HO270 := n1_; have HB := n2_; clear n0_ n1_ n2_; (try clear hb); (try clear hb2); (try clear hk); (try clear hi); (try clear ho0); obtain ⟨Ao26, co26, eo26⟩ := Kd.S_slice HO265.out; subst eo26) | (go_at_call 21; (with_reducible refine (garretlaw19_sameNodes.calls kj5 _ _ t262 _ _ l0 true _ ?side1 ?side2 ?side3 ?side4 A21.out).mono ?_); (case side1 => repeat (first | exact (Kd.S_reads' HO265.out).2.2 | (with_reducible refine Kd.C_alloc ?_ _) | (with_reducible refine Kd.C_drewN ?_ _) | (with_reducible refine Kd.C_drew ?_))); (case side2 => exact (Kd.S_reads' HO265.out).2.1); (case side3 => repeat (first | exact (Kd.C_below HR0.out HB.out) | (with_reducible refine Kd.C_alloc ?_ _) | (with_reducible refine Kd.C_drewN ?_ _) | (with_reducible refine Kd.C_drew ?_))); (case side4 => exact HC0.out); rintro e w27 ⟨rfl, hb⟩; have n0_ := Aside0.mk (Kd.S_below (by (with_reducible repeat (first | apply Kd.S_alloc | apply Kd.S_drewN | apply Kd.S_drew)); exact HO265.out) hb); have n1_ := Aside0.mk (Kd.S_below (by (with_reducible repeat (first | apply Kd.S_alloc | apply Kd.S_drewN | apply Kd.S_drew)); exact HO270.out) hb); have n2_ := Aside0.mk (below_step (by repeat (first | (with_reducible first | exact HB.out | apply below_alloc | apply pw_below_drewN | apply below_drew1) | exact HB.out)) hb); clear HO265; clear HO270; clear HB; have HO265 := n0_; have HO270 := n1_; have HB := n2_; clear n0_ n1_ n2_; (try clear hb); (try clear hb2); (try clear hk); (try clear hi)))
                        go_meet
                        case rel => exact ⟨_, H', ⟨by have := HJ5.out; first | omega | exact Nat.le_refl _⟩, ⟨by repeat (first | (with_reducible first | exact HB.out | apply below_alloc | apply pw_below_drewN | apply below_drew1) | exact HB.out)⟩⟩
                      · rw [if_neg c23] at H
                        exact absurd H (by simp)
                    · replace c22 := Bool.eq_false_iff.mpr c22
                      subst c22
                      have H1 : (none) = some r := by rw [if_neg (show ¬ (false = true) by decide)] at H; exact H
                      clear H
                      have H := H1
                      clear H1
                      exact absurd H (by simp)
                  · rw [if_neg c20] at H
                    exact absurd H (by simp)
                · rw [if_neg c18] at H
                  exact absurd H (by simp)
              · rw [if_neg c17] at H
                exact absurd H (by simp)
            · rw [if_neg c14] at H
              have c14b0 : (t261 == 0) = false := beq_eq_false_iff_ne.mpr c14
              have c14b1 : (t261 != 0) = true := bne_iff_ne.mpr c14
              (first | rw [c14b0] | (simp only [i64_w, i32_w]; rw [c14b0]) | skip)
              have H' := Aside0.mk H
              clear H
              go_wp2
              go_meet
              case rel => exact ⟨_, H', ⟨by have := HJ5.out; first | omega | exact Nat.le_refl _⟩, ⟨by repeat (first | (with_reducible first | exact HB.out | apply below_alloc | apply pw_below_drewN | apply below_drew1) | exact HB.out)⟩⟩
          case rest =>
            clear HC12
            try clear c1
            try clear c2
            try clear p2
            try clear c5
            try clear c6
            try clear c9
            try clear c10
            try clear c14
            try clear c14b0
            try clear c14b1
            try clear c17
            try clear c17b0
            try clear c17b1
            try clear c18
            try clear c18b0
            try clear c18b1
            try clear c19
            try clear c20
            try clear c20b0
            try clear c20b1
            try clear c22
            try clear c23
            try clear c23b0
            try clear c23b1
            try clear p2
            obtain ⟨kq, HA, HJ11, HB⟩ := hcut
            cases kq with
            | zero => exact absurd HA.out (by simp [garretlaw19_TreeBack.j1])
            | succ kj11 =>
              have H := HA.out
              clear HA
              simp only [garretlaw19_TreeBack.j1] at H
              replace H := Option.bind_eq_some_iff.mp H
              obtain ⟨⟨t272, t273⟩, A280, H⟩ := H
              replace H : (if t273 = 0 then ((tree_Encode.f kj11 t272).bind fun bt276 => (if bt276.2 = 0 then (some (bt276.1.toList == a1.toList)) else (none))) else (some true)) = some r := H
              have A28 := Aside0.mk A280
              clear A280
              by_cases c29 : t273 = 0
              · rw [if_pos c29] at H
                have c29b0 : (t273 == 0) = true := beq_iff_eq.mpr c29
                have c29b1 : (t273 != 0) = false := bne_eq_false_iff_eq.mpr c29
                clear c29
                replace H := Option.bind_eq_some_iff.mp H
                obtain ⟨⟨t276, t277⟩, A300, H⟩ := H
                replace H : (if t277 = 0 then (some (t276.toList == a1.toList)) else (none)) = some r := H
                have A30 := Aside0.mk A300
                clear A300
                by_cases c31 : t277 = 0
                · rw [if_pos c31] at H
                  have c31b0 : (t277 == 0) = true := beq_iff_eq.mpr c31
                  have c31b1 : (t277 != 0) = false := bne_eq_false_iff_eq.mpr c31
                  clear c31
                  obtain rfl := Option.some.inj H
                  go_wp2_with (first | ((with_reducible refine gate_callee (f := 20) rfl ?_); refine goesL_ (some 63) rfl rfl Try.func20 (by kernel_rfl) rfl #[.string a1] rfl (by (try simp only [List.map_toArray, List.map_cons, List.map_nil]); first | done | rfl | (simp only [List.length_drop, List.length_take]; rfl)) ?_; (with_reducible refine (tree_Decode.calls kj11 a1 t272 t273 _ A28.out).mono ?_); rintro e w32 ⟨v274, rfl, ho0, hb⟩; refine ⟨_, rfl, ?_⟩; have n0_ := Aside0.mk (Kd.S_lower ho0 (below_size (by repeat (first | (with_reducible first | exact HB.out | apply below_alloc | apply pw_below_drewN | apply below_drew1) | exact HB.out)))); have n1_ := Aside0.mk (below_step (by repeat (first | (with_reducible first | exact HB.out | apply below_alloc | apply pw_below_drewN | apply below_drew1) | exact HB.out)) hb); clear HB; have HO275 := n0_; have HB := n1_; clear n0_ n1_; (try clear hb); (try clear hb2); (try clear hk); (try clear hi); (try clear ho0); obtain ⟨Ao33, co33, eo33⟩ := Kd.S_slice HO275.out; subst eo33) | ((with_reducible refine gate_callee (f := 19) rfl ?_); refine goesL_ (some 70) rfl rfl Try.func19 (by kernel_rfl) rfl #[.slice Ao33 t272.length co33] rfl (by (try simp only [List.map_toArray, List.map_cons, List.map_nil]); first | done | rfl | (simp only [List.length_drop, List.length_take]; rfl)) ?_; (with_reducible refine (tree_Encode.calls kj11 _ _ t272 t276 t277 _ ?side1 ?side2 A30.out).mono ?_); (case side1 => repeat (first | exact (Kd.S_reads' HO275.out).2.2 | (with_reducible refine Kd.C_alloc ?_ _) | (with_reducible refine Kd.C_drewN ?_ _) | (with_reducible refine Kd.C_drew ?_))); (case side2 => exact (Kd.S_reads' HO275.out).2.1); rintro e w34 ⟨rfl, hb⟩; refine ⟨_, rfl, ?_⟩; have n0_ := Aside0.mk (Kd.S_below (by (with_reducible repeat (first | apply Kd.S_alloc | apply Kd.S_drewN | apply Kd.S_drew)); exact HO275.out) hb); have n1_ := Aside0.mk (below_step (by repeat (first | (with_reducible first | exact HB.out | apply below_alloc | apply pw_below_drewN | apply below_drew1) | exact HB.out)) hb); clear HO275; clear HB; have HO275 := n0_; have HB := n1_; clear n0_ n1_; (try clear hb); (try clear hb2); (try clear hk); (try clear hi)))
                  go_ret
                  exact ⟨by first | rfl | (simp [errW_none, errW_some] <;> rfl) | (simp [*, errW_none, errW_some] <;> rfl), by repeat (first | (with_reducible first | exact HB.out | apply below_alloc | apply pw_below_drewN | apply below_drew1) | exact HB.out)⟩
                · rw [if_neg c31] at H
                  exact absurd H (by simp)
              · rw [if_neg c29] at H
                have c29b0 : (t273 == 0) = false := beq_eq_false_iff_ne.mpr c29
                have c29b1 : (t273 != 0) = true := bne_iff_ne.mpr c29
                obtain rfl := Option.some.inj H
                go_wp2_with (first | ((with_reducible refine gate_callee (f := 20) rfl ?_); refine goesL_ (some 63) rfl rfl Try.func20 (by kernel_rfl) rfl #[.string a1] rfl (by (try simp only [List.map_toArray, List.map_cons, List.map_nil]); first | done | rfl | (simp only [List.length_drop, List.length_take]; rfl)) ?_; (with_reducible refine (tree_Decode.calls kj11 a1 t272 t273 _ A28.out).mono ?_); rintro e w35 ⟨v274, rfl, ho0, hb⟩; refine ⟨_, rfl, ?_⟩; have n0_ := Aside0.mk (Kd.S_lower ho0 (below_size (by repeat (first | (with_reducible first | exact HB.out | apply below_alloc | apply pw_below_drewN | apply below_drew1) | exact HB.out)))); have n1_ := Aside0.mk (below_step (by repeat (first | (with_reducible first | exact HB.out | apply below_alloc | apply pw_below_drewN | apply below_drew1) | exact HB.out)) hb); clear HB; have HO275 := n0_; have HB := n1_; clear n0_ n1_; (try clear hb); (try clear hb2); (try clear hk); (try clear hi); (try clear ho0)))
                go_ret
                exact ⟨by first | rfl | (simp [errW_none, errW_some] <;> rfl) | (simp [*, errW_none, errW_some] <;> rfl), by repeat (first | (with_reducible first | exact HB.out | apply below_alloc | apply pw_below_drewN | apply below_drew1) | exact HB.out)⟩
  · replace c5 := Bool.eq_false_iff.mpr c5
    subst c5
    have H1 : (none) = some r := by rw [if_neg (show ¬ (false = true) by decide)] at H; exact H
    clear H
    have H := H1
    clear H1
    exact absurd H (by simp)

/-- THE ONE PURE STATEMENT of garretlaw19_TreeBack: yours. -/
def garretlaw19_TreeBack.Pure : Prop := ∀ (l0 : List (S24)) (a1 : ByteArray) (a2 : Int), (l0.length ≤ maxLen ∧ l0.length * 112 ≤ 140737488351232 ∧ ∀ l0y ∈ l0, (l0y.f0.size ≤ 140737488351232) ∧ (((Lit.int .i64 l0y.f1).wf = true) ∧ (((Lit.int .i64 l0y.f2).wf = true) ∧ (((Lit.int .i64 l0y.f3).wf = true) ∧ (((Lit.int .i64 l0y.f4).wf = true) ∧ (((Lit.int .i64 l0y.f5).wf = true) ∧ ((l0y.f6.length ≤ maxLen ∧ l0y.f6.length * 16 ≤ 140737488351232 ∧ ∀ l0yf6y ∈ l0y.f6, l0yf6y.size ≤ 140737488351232) ∧ ((l0y.f7.size ≤ 140737488351232) ∧ (l0y.f8.size ≤ 140737488351232))))))))) → (a1.size ≤ 140737488351232) → ((Lit.int .i64 a2).wf = true) → (((l0.map fun l0y => (((l0y.f0.size + 1) + (1 + (1 + (1 + (1 + (1 + (((l0y.f6.map fun l0y_f6y => (l0y_f6y.size + 1)).sum + 1) + ((l0y.f7.size + 1) + (l0y.f8.size + 1))))))))) + 1)).sum + 1) + (a1.size + 1) ≤ 1048576) → ∃ k, garretlaw19_TreeBack.f k l0 a1 a2 = some true
theorem garretlaw19_TreeBack.walk (P : garretlaw19_TreeBack.Pure) (A0 : Option Addr) (c0 : Nat) (l0 : List (S24)) (a1 : ByteArray) (a2 : Int) (w : World) (hr0 : Kd.C k24 w A0 l0.length l0) (hc0 : l0.length ≤ c0) (o0 : (l0.length ≤ maxLen ∧ l0.length * 112 ≤ 140737488351232 ∧ ∀ l0y ∈ l0, (l0y.f0.size ≤ 140737488351232) ∧ (((Lit.int .i64 l0y.f1).wf = true) ∧ (((Lit.int .i64 l0y.f2).wf = true) ∧ (((Lit.int .i64 l0y.f3).wf = true) ∧ (((Lit.int .i64 l0y.f4).wf = true) ∧ (((Lit.int .i64 l0y.f5).wf = true) ∧ ((l0y.f6.length ≤ maxLen ∧ l0y.f6.length * 16 ≤ 140737488351232 ∧ ∀ l0yf6y ∈ l0y.f6, l0yf6y.size ≤ 140737488351232) ∧ ((l0y.f7.size ≤ 140737488351232) ∧ (l0y.f8.size ≤ 140737488351232)))))))))) (o1 : (a1.size ≤ 140737488351232)) (o2 : ((Lit.int .i64 a2).wf = true)) (oB : ((l0.map fun l0y => (((l0y.f0.size + 1) + (1 + (1 + (1 + (1 + (1 + (((l0y.f6.map fun l0y_f6y => (l0y_f6y.size + 1)).sum + 1) + ((l0y.f7.size + 1) + (l0y.f8.size + 1))))))))) + 1)).sum + 1) + (a1.size + 1) ≤ 1048576) :
    Calls Try.prog 6 #[.slice A0 l0.length c0, .string a1, .int .i64 a2] w fun e w' => e = .returned (.bool true) ∧ Below w.heap.size w w' := by
  obtain ⟨k, h⟩ := P l0 a1 a2 o0 o1 o2 oB
  refine (garretlaw19_TreeBack.calls k A0 c0 l0 a1 a2 true w hr0 hc0 h).mono ?_
  rintro e w' ⟨rfl, hd⟩
  exact ⟨rfl, hd⟩

end Go.Proofs.Ytnlphphaajkjpaa.QTreB
