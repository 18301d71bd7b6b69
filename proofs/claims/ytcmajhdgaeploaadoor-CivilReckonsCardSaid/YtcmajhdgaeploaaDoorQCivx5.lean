-- Written for this claim by a program of this session.
import Derived.Test.YtcmajhdgaeploaaDoorQCivx0
import Derived.Test.YtcmajhdgaeploaaDoorQCivx2
import Derived.Test.YtcmajhdgaeploaaDoorQCivx3
import Derived.Test.YtcmajhdgaeploaaDoorQCivx4
namespace Go.Proofs.YtcmajhdgaeploaaDoor.QCiv
open Go.RowKit Go.Proofs.YtcmajhdgaeploaaDoorW.PrintWords Go.Proofs.YtcmajhdgaeploaaDoorW.PrintLast Go.Proofs.YtcmajhdgaeploaaDoorW.PrintMore
attribute [local go_sem] max2_int min2_int max_two min_two max_three min_three max_four min_four   -- for this text's walks alone
set_option linter.unusedVariables false
set_option linter.unusedSimpArgs false

/-! ### garretlaw21_CivilYears: function 4 -/
def garretlaw21_CivilYears.l0 : Nat → Int → Int → Int → Option (Bool)
  | 0, _, _, _ => none
  | k + 1, x0, x3, x4 => if x4 ≤ 12 then ((civil_Days.f x0 x4).bind fun bt181 => (if bt181.2 = 0 then (garretlaw21_CivilYears.l0 k x0 (wrap64 (x3 + bt181.1)) (wrap64 (x4 + 1))) else (none))) else ((civil_Leap.f x0).bind fun t183 => (if t183 = true then ((civil_Unix.f k x0 1 1 0 0 0 0).bind fun bt184 => ((civil_Unix.f k (wrap64 (x0 + 1)) 1 1 0 0 0 0).bind fun bt186 => ((civil_Unix.f k (wrap64 (x0 + 400)) 1 1 0 0 0 0).bind fun bt188 => (if x3 = 366 then (if bt184.2 = 0 then (if bt186.2 = 0 then (if bt188.2 = 0 then (if (wrap64 (bt186.1 - bt184.1)) = 31622400 then (some ((wrap64 (bt188.1 - bt184.1)) == 12622780800)) else (none)) else (none)) else (none)) else (none)) else (none))))) else ((civil_Unix.f k x0 1 1 0 0 0 0).bind fun bt190 => ((civil_Unix.f k (wrap64 (x0 + 1)) 1 1 0 0 0 0).bind fun bt192 => ((civil_Unix.f k (wrap64 (x0 + 400)) 1 1 0 0 0 0).bind fun bt194 => (if x3 = 365 then (if bt190.2 = 0 then (if bt192.2 = 0 then (if bt194.2 = 0 then (if (wrap64 (bt192.1 - bt190.1)) = 31536000 then (some ((wrap64 (bt194.1 - bt190.1)) == 12622780800)) else (none)) else (none)) else (none)) else (none)) else (none)))))))
def garretlaw21_CivilYears.f (k : Nat) (a0 : Int) : Option (Bool) := (garretlaw21_works.f k).bind fun t179 => (if t179 = true then ((garretbook_Among.f a0 30000).bind fun t180 => (garretlaw21_CivilYears.l0 k (wrap64 (1970 + t180)) 0 1)) else (none))
theorem garretlaw21_CivilYears.mono_l : ∀ k, (∀ y0 y1 y2, LeO (garretlaw21_CivilYears.l0 k y0 y1 y2) (garretlaw21_CivilYears.l0 (k + 1) y0 y1 y2))
  | 0 => fun _ _ _ r h => by simp [garretlaw21_CivilYears.l0] at h
  | k + 1 => by
    have ih0 := garretlaw21_CivilYears.mono_l k
    · intro y0 y1 y2
      unfold garretlaw21_CivilYears.l0
      repeat' first
      | (with_reducible exact ih0 _ _ _)
      | (with_reducible exact civil_Unix.mono _ _ _ _ _ _ _ _)
      | (with_reducible exact garretlaw21_works.mono _)
      | (with_reducible exact LeO.refl _)
      | (with_reducible exact LeO.none _)
      | (with_reducible refine LeO.ite ?_ ?_)
      | (with_reducible refine LeO.bind ?_ (fun _ => ?_))
      | exact ih0 _ _ _
      | exact civil_Unix.mono _ _ _ _ _ _ _ _
      | exact garretlaw21_works.mono _
      | exact LeO.none _
      | refine LeO.ite ?_ ?_
      | refine LeO.bind ?_ (fun _ => ?_)
theorem garretlaw21_CivilYears.mono : ∀ a0 k, LeO (garretlaw21_CivilYears.f k a0) (garretlaw21_CivilYears.f (k + 1) a0) := by
  intro a0 k
  have ih0 := garretlaw21_CivilYears.mono_l k
  unfold garretlaw21_CivilYears.f
  repeat' first
      | (with_reducible exact ih0 _ _ _)
      | (with_reducible exact civil_Unix.mono _ _ _ _ _ _ _ _)
      | (with_reducible exact garretlaw21_works.mono _)
      | (with_reducible exact LeO.refl _)
      | (with_reducible exact LeO.none _)
      | (with_reducible refine LeO.ite ?_ ?_)
      | (with_reducible refine LeO.bind ?_ (fun _ => ?_))
      | exact ih0 _ _ _
      | exact civil_Unix.mono _ _ _ _ _ _ _ _
      | exact garretlaw21_works.mono _
      | exact LeO.none _
      | refine LeO.ite ?_ ?_
      | refine LeO.bind ?_ (fun _ => ?_)
set_option maxHeartbeats 8000000 in
set_option maxRecDepth 100000 in
theorem garretlaw21_CivilYears.calls (k : Nat) (a0 : Int) (r : Bool) (w : World) (hL : Laid w) (h : garretlaw21_CivilYears.f k a0 = some r) :
    Calls Tryd.prog 4 #[.int .i64 a0] w fun e w' => e = .returned (.bool r) ∧ Below w.heap.size w w' := by
  have hu25 := Tryd.underlying25
  have HLAID := Aside0.mk hL
  clear hL
  have HB := Aside0.mk (Below.refl w.heap.size w)
  have H : ((garretlaw21_works.f k).bind fun t179 => (if t179 = true then ((garretbook_Among.f a0 30000).bind fun t180 => (garretlaw21_CivilYears.l0 k (wrap64 (1970 + t180)) 0 1)) else (none))) = some r := h
  clear h
  replace H := Option.bind_eq_some_iff.mp H
  obtain ⟨t179, A20, H⟩ := H
  replace H : (if t179 = true then ((garretbook_Among.f a0 30000).bind fun t180 => (garretlaw21_CivilYears.l0 k (wrap64 (1970 + t180)) 0 1)) else (none)) = some r := H
  have A2 := Aside0.mk A20
  clear A20
  by_cases c3 : t179 = true
  · subst c3
    have H1 : ((garretbook_Among.f a0 30000).bind fun t180 => (garretlaw21_CivilYears.l0 k (wrap64 (1970 + t180)) 0 1)) = some r := by rw [if_pos rfl] at H; exact H
    clear H
    have H := H1
    clear H1
    replace H := Option.bind_eq_some_iff.mp H
    obtain ⟨t180, A40, H⟩ := H
    replace H : (garretlaw21_CivilYears.l0 k (wrap64 (1970 + t180)) 0 1) = some r := H
    have A4 := Aside0.mk A40
    clear A40
    have H' := Aside0.mk H
    clear H
    go_enter Tryd.func4, Tryd.ntmps4
    go_wp2_with (first | ((with_reducible refine gate_callee (f := 13) rfl ?_); refine goesL_ (some 14) rfl rfl Tryd.func13 (by kernel_rfl) rfl #[] rfl (by (try simp only [List.map_toArray, List.map_cons, List.map_nil]); first | done | rfl | (simp only [List.length_drop, List.length_take]; rfl)) ?_; (with_reducible refine (garretlaw21_works.calls k  true _ ?side1 A2.out).mono ?_); (case side1 => first | exact HLAID.out | exact Laid.drewN HLAID.out _ | exact Laid.below HLAID.out (by repeat (first | (with_reducible first | exact HB.out | apply below_alloc | apply pw_below_drewN | apply below_drew1) | exact HB.out))); rintro e w5 ⟨rfl, hb⟩; refine ⟨_, rfl, ?_⟩; have n0_ := Aside0.mk (below_step (by repeat (first | (with_reducible first | exact HB.out | apply below_alloc | apply pw_below_drewN | apply below_drew1) | exact HB.out)) hb); clear HB; have HB := n0_; clear n0_; (try clear hb); (try clear hb2); (try clear hk); (try clear hi)) | ((with_reducible refine gate_callee (f := 14) rfl ?_); refine goesL_ (some 17) rfl rfl Tryd.func14 (by kernel_rfl) rfl #[.int .i64 a0, .int .i64 30000] rfl (by (try simp only [List.map_toArray, List.map_cons, List.map_nil]); first | done | rfl | (simp only [List.length_drop, List.length_take]; rfl)) ?_; (with_reducible refine (garretbook_Among.calls a0 30000 t180 _ A4.out).mono ?_); rintro e w' ⟨rfl, ⟨nd, rfl⟩⟩; refine ⟨_, rfl, ?_⟩))
    go_loopg [3, 4] k (fun kq v3 v4 w' => ∃ (x3_1 : Int) (x4_1 : Int), v3 = .int .i64 x3_1 ∧ v4 = .int .i64 x4_1 ∧ Aside0 (garretlaw21_CivilYears.l0 kq (wrap64 (1970 + t180)) x3_1 x4_1 = some r) ∧ Aside0 (kq ≤ k) ∧ Aside0 (Below w.heap.size w w'))
    case atStart => exact ⟨(0), (1), (by first | rfl | (simp; done) | (simp [*]; done) | (simp; exact (by decide : ∀ p q : Bool, (p == q) = (!(p != q))) _ _) | (simp; exact (by decide : ∀ p q : Bool, (!(p != q)) = (p == q)) _ _)), (by first | rfl | (simp; done) | (simp [*]; done) | (simp; exact (by decide : ∀ p q : Bool, (p == q) = (!(p != q))) _ _) | (simp; exact (by decide : ∀ p q : Bool, (!(p != q)) = (p == q)) _ _)), H', ⟨Nat.le_refl _⟩, ⟨by repeat (first | (with_reducible first | exact HB.out | apply below_alloc | apply pw_below_drewN | apply below_drew1) | exact HB.out)⟩⟩
    case round =>
      clear H'
      try clear c1
      try clear p2
      try clear c3
      try clear c4
      obtain ⟨x3_1, x4_1, rfl, rfl, HA, HK1, HB⟩ := hrel
      cases gk with
      | zero => exact absurd HA.out (by simp [garretlaw21_CivilYears.l0])
      | succ k1 =>
        have H := HA.out
        clear HA
        simp only [garretlaw21_CivilYears.l0] at H
        by_cases c6 : x4_1 ≤ 12
        · rw [if_pos c6] at H
          have c6b0 : decide (x4_1 ≤ 12) = true := decide_eq_true c6
          clear c6
          replace H := Option.bind_eq_some_iff.mp H
          obtain ⟨⟨t181, t182⟩, A70, H⟩ := H
          replace H : (if t182 = 0 then (garretlaw21_CivilYears.l0 k1 (wrap64 (1970 + t180)) (wrap64 (x3_1 + t181)) (wrap64 (x4_1 + 1))) else (none)) = some r := H
          have A7 := Aside0.mk A70
          clear A70
          by_cases c8 : t182 = 0
          · rw [if_pos c8] at H
            have c8b0 : (t182 == 0) = true := beq_iff_eq.mpr c8
            have c8b1 : (t182 != 0) = false := bne_eq_false_iff_eq.mpr c8
            clear c8
            have H' := Aside0.mk H
            clear H
            go_wp2_with (first | ((with_reducible refine gate_callee (f := 16) rfl ?_); refine goesL_ (some 26) rfl rfl Tryd.func16 (by kernel_rfl) rfl #[.int .i64 (wrap64 (1970 + t180)), .int .i64 x4_1] rfl (by (try simp only [List.map_toArray, List.map_cons, List.map_nil]); first | done | rfl | (simp only [List.length_drop, List.length_take]; rfl)) ?_; (with_reducible refine (civil_Days.calls (wrap64 (1970 + t180)) x4_1 t181 t182 _ ?side1 A7.out).mono ?_); (case side1 => first | exact HLAID.out | exact Laid.drewN HLAID.out _ | exact Laid.below HLAID.out (by repeat (first | (with_reducible first | exact HB.out | apply below_alloc | apply pw_below_drewN | apply below_drew1) | exact HB.out))); rintro e w' ⟨rfl, ⟨nd, rfl⟩⟩; refine ⟨_, rfl, ?_⟩))
            go_roundg k1
            case measure => have := HK1.out; omega
            case rel => exact ⟨(wrap64 (x3_1 + t181)), (wrap64 (x4_1 + 1)), (by first | rfl | (simp; done) | (simp [*]; done) | (simp; exact (by decide : ∀ p q : Bool, (p == q) = (!(p != q))) _ _) | (simp; exact (by decide : ∀ p q : Bool, (!(p != q)) = (p == q)) _ _)), (by first | rfl | (simp; done) | (simp [*]; done) | (simp; exact (by decide : ∀ p q : Bool, (p == q) = (!(p != q))) _ _) | (simp; exact (by decide : ∀ p q : Bool, (!(p != q)) = (p == q)) _ _)), H', ⟨by have := HK1.out; omega⟩, ⟨by repeat (first | (with_reducible first | exact HB.out | apply below_alloc | apply pw_below_drewN | apply below_drew1) | exact HB.out)⟩⟩
          · rw [if_neg c8] at H
            exact absurd H (by simp)
        · rw [if_neg c6] at H
          have c6b0 : decide (x4_1 ≤ 12) = false := decide_eq_false c6
          clear c6
          replace H := Option.bind_eq_some_iff.mp H
          obtain ⟨t183, A90, H⟩ := H
          replace H : (if t183 = true then ((civil_Unix.f k1 (wrap64 (1970 + t180)) 1 1 0 0 0 0).bind fun bt184 => ((civil_Unix.f k1 (wrap64 ((wrap64 (1970 + t180)) + 1)) 1 1 0 0 0 0).bind fun bt186 => ((civil_Unix.f k1 (wrap64 ((wrap64 (1970 + t180)) + 400)) 1 1 0 0 0 0).bind fun bt188 => (if x3_1 = 366 then (if bt184.2 = 0 then (if bt186.2 = 0 then (if bt188.2 = 0 then (if (wrap64 (bt186.1 - bt184.1)) = 31622400 then (some ((wrap64 (bt188.1 - bt184.1)) == 12622780800)) else (none)) else (none)) else (none)) else (none)) else (none))))) else ((civil_Unix.f k1 (wrap64 (1970 + t180)) 1 1 0 0 0 0).bind fun bt190 => ((civil_Unix.f k1 (wrap64 ((wrap64 (1970 + t180)) + 1)) 1 1 0 0 0 0).bind fun bt192 => ((civil_Unix.f k1 (wrap64 ((wrap64 (1970 + t180)) + 400)) 1 1 0 0 0 0).bind fun bt194 => (if x3_1 = 365 then (if bt190.2 = 0 then (if bt192.2 = 0 then (if bt194.2 = 0 then (if (wrap64 (bt192.1 - bt190.1)) = 31536000 then (some ((wrap64 (bt194.1 - bt190.1)) == 12622780800)) else (none)) else (none)) else (none)) else (none)) else (none)))))) = some r := H
          have A9 := Aside0.mk A90
          clear A90
          by_cases c10 : t183 = true
          · subst c10
            have H1 : ((civil_Unix.f k1 (wrap64 (1970 + t180)) 1 1 0 0 0 0).bind fun bt184 => ((civil_Unix.f k1 (wrap64 ((wrap64 (1970 + t180)) + 1)) 1 1 0 0 0 0).bind fun bt186 => ((civil_Unix.f k1 (wrap64 ((wrap64 (1970 + t180)) + 400)) 1 1 0 0 0 0).bind fun bt188 => (if x3_1 = 366 then (if bt184.2 = 0 then (if bt186.2 = 0 then (if bt188.2 = 0 then (if (wrap64 (bt186.1 - bt184.1)) = 31622400 then (some ((wrap64 (bt188.1 - bt184.1)) == 12622780800)) else (none)) else (none)) else (none)) else (none)) else (none))))) = some r := by rw [if_pos rfl] at H; exact H
            clear H
            have H := H1
            clear H1
            replace H := Option.bind_eq_some_iff.mp H
            obtain ⟨⟨t184, t185⟩, A110, H⟩ := H
            replace H : ((civil_Unix.f k1 (wrap64 ((wrap64 (1970 + t180)) + 1)) 1 1 0 0 0 0).bind fun bt186 => ((civil_Unix.f k1 (wrap64 ((wrap64 (1970 + t180)) + 400)) 1 1 0 0 0 0).bind fun bt188 => (if x3_1 = 366 then (if t185 = 0 then (if bt186.2 = 0 then (if bt188.2 = 0 then (if (wrap64 (bt186.1 - t184)) = 31622400 then (some ((wrap64 (bt188.1 - t184)) == 12622780800)) else (none)) else (none)) else (none)) else (none)) else (none)))) = some r := H
            have A11 := Aside0.mk A110
            clear A110
            replace H := Option.bind_eq_some_iff.mp H
            obtain ⟨⟨t186, t187⟩, A120, H⟩ := H
            replace H : ((civil_Unix.f k1 (wrap64 ((wrap64 (1970 + t180)) + 400)) 1 1 0 0 0 0).bind fun bt188 => (if x3_1 = 366 then (if t185 = 0 then (if t187 = 0 then (if bt188.2 = 0 then (if (wrap64 (t186 - t184)) = 31622400 then (some ((wrap64 (bt188.1 - t184)) == 12622780800)) else (none)) else (none)) else (none)) else (none)) else (none))) = some r := H
            have A12 := Aside0.mk A120
            clear A120
            replace H := Option.bind_eq_some_iff.mp H
            obtain ⟨⟨t188, t189⟩, A130, H⟩ := H
            replace H : (if x3_1 = 366 then (if t185 = 0 then (if t187 = 0 then (if t189 = 0 then (if (wrap64 (t186 - t184)) = 31622400 then (some ((wrap64 (t188 - t184)) == 12622780800)) else (none)) else (none)) else (none)) else (none)) else (none)) = some r := H
            have A13 := Aside0.mk A130
            clear A130
            by_cases c14 : x3_1 = 366
            · rw [if_pos c14] at H
              have c14b0 : (x3_1 == 366) = true := beq_iff_eq.mpr c14
              have c14b1 : (x3_1 != 366) = false := bne_eq_false_iff_eq.mpr c14
              clear c14
              by_cases c15 : t185 = 0
              · rw [if_pos c15] at H
                have c15b0 : (t185 == 0) = true := beq_iff_eq.mpr c15
                have c15b1 : (t185 != 0) = false := bne_eq_false_iff_eq.mpr c15
                clear c15
                by_cases c16 : t187 = 0
                · rw [if_pos c16] at H
                  have c16b0 : (t187 == 0) = true := beq_iff_eq.mpr c16
                  have c16b1 : (t187 != 0) = false := bne_eq_false_iff_eq.mpr c16
                  clear c16
                  by_cases c17 : t189 = 0
                  · rw [if_pos c17] at H
                    have c17b0 : (t189 == 0) = true := beq_iff_eq.mpr c17
                    have c17b1 : (t189 != 0) = false := bne_eq_false_iff_eq.mpr c17
                    clear c17
                    by_cases c18 : (wrap64 (t186 - t184)) = 31622400
                    · rw [if_pos c18] at H
                      have c18b0 : ((wrap64 (t186 - t184)) == 31622400) = true := beq_iff_eq.mpr c18
                      have c18b1 : ((wrap64 (t186 - t184)) != 31622400) = false := bne_eq_false_iff_eq.mpr c18
                      clear c18
                      obtain rfl := Option.some.inj H
                      go_wp2_with (first | ((with_reducible refine gate_callee (f := 17) rfl ?_); refine goesL_ (some 35) rfl rfl Tryd.func17 (by kernel_rfl) rfl #[.int .i64 (wrap64 (1970 + t180))] rfl (by (try simp only [List.map_toArray, List.map_cons, List.map_nil]); first | done | rfl | (simp only [List.length_drop, List.length_take]; rfl)) ?_; (with_reducible refine (civil_Leap.calls (wrap64 (1970 + t180)) true _ A9.out).mono ?_); rintro e w' ⟨rfl, ⟨nd, rfl⟩⟩; refine ⟨_, rfl, ?_⟩) | ((with_reducible refine gate_callee (f := 18) rfl ?_); refine goesL_ (some 39) rfl rfl Tryd.func18 (by kernel_rfl) rfl #[.agg #[.int .i64 (wrap64 (1970 + t180)), .int .i64 1, .int .i64 1, .int .i64 0, .int .i64 0, .int .i64 0, .int .i64 0]] rfl (by (try simp only [List.map_toArray, List.map_cons, List.map_nil]); first | done | rfl | (simp only [List.length_drop, List.length_take]; rfl)) ?_; (with_reducible refine (civil_Unix.calls k1 (wrap64 (1970 + t180)) 1 1 0 0 0 0 t184 t185 _ ?side1 A11.out).mono ?_); (case side1 => first | exact HLAID.out | exact Laid.drewN HLAID.out _ | exact Laid.below HLAID.out (by repeat (first | (with_reducible first | exact HB.out | apply below_alloc | apply pw_below_drewN | apply below_drew1) | exact HB.out))); rintro e w19 ⟨rfl, hb⟩; refine ⟨_, rfl, ?_⟩; have n0_ := Aside0.mk (below_step (by repeat (first | (with_reducible first | exact HB.out | apply below_alloc | apply pw_below_drewN | apply below_drew1) | exact HB.out)) hb); clear HB; have HB := n0_; clear n0_; (try clear hb); (try clear hb2); (try clear hk); (try clear hi)) | ((with_reducible refine gate_callee (f := 18) rfl ?_); refine goesL_ (some 46) rfl rfl Tryd.func18 (by kernel_rfl) rfl #[.agg #[.int .i64 (wrap64 ((wrap64 (1970 + t180)) + 1)), .int .i64 1, .int .i64 1, .int .i64 0, .int .i64 0, .int .i64 0, .int .i64 0]] rfl (by (try simp only [List.map_toArray, List.map_cons, List.map_nil]); first | done | rfl | (simp only [List.length_drop, List.length_take]; rfl)) ?_; (with_reducible refine (civil_Unix.calls k1 (wrap64 ((wrap64 (1970 + t180)) + 1)) 1 1 0 0 0 0 t186 t187 _ ?side1 A12.out).mono ?_); (case side1 => first | exact HLAID.out | exact Laid.drewN HLAID.out _ | exact Laid.below HLAID.out (by repeat (first | (with_reducible first | exact HB.out | apply below_alloc | apply pw_below_drewN | apply below_drew1) | exact HB.out))); rintro e w20 ⟨rfl, hb⟩; refine ⟨_, rfl, ?_⟩; have n0_ := Aside0.mk (below_step (by repeat (first | (with_reducible first | exact HB.out | apply below_alloc | apply pw_below_drewN | apply below_drew1) | exact HB.out)) hb); clear HB; have HB := n0_; clear n0_; (try clear hb); (try clear hb2); (try clear hk); (try clear hi)) | ((with_reducible refine gate_callee (f := 18) rfl ?_); refine goesL_ (some 53) rfl rfl Tryd.func18 (by kernel_rfl) rfl #[.agg #[.int .i64 (wrap64 ((wrap64 (1970 + t180)) + 400)), .int .i64 1, .int .i64 1, .int .i64 0, .int .i64 0, .int .i64 0, .int .i64 0]] rfl (by (try simp only [List.map_toArray, List.map_cons, List.map_nil]); first | done | rfl | (simp only [List.length_drop, List.length_take]; rfl)) ?_; (with_reducible refine (civil_Unix.calls k1 (wrap64 ((wrap64 (1970 + t180)) + 400)) 1 1 0 0 0 0 t188 t189 _ ?side1 A13.out).mono ?_); (case side1 => first | exact HLAID.out | exact Laid.drewN HLAID.out _ | exact Laid.below HLAID.out (by repeat (first | (with_reducible first | exact HB.out | apply below_alloc | apply pw_below_drewN | apply below_drew1) | exact HB.out))); rintro e w21 ⟨rfl, hb⟩; refine ⟨_, rfl, ?_⟩; have n0_ := Aside0.mk (below_step (by repeat (first | (with_reducible first | exact HB.out | apply below_alloc | apply pw_below_drewN | apply below_drew1) | exact HB.out)) hb); clear HB; have HB := n0_; clear n0_; (try clear hb); (try clear hb2); (try clear hk); (try clear hi)))
                      go_ret
                      exact ⟨by first | rfl | (simp [errW_none, errW_some] <;> rfl) | (simp [*, errW_none, errW_some] <;> rfl), by repeat (first | (with_reducible first | exact HB.out | apply below_alloc | apply pw_below_drewN | apply below_drew1) | exact HB.out)⟩
                    · rw [if_neg c18] at H
                      exact absurd H (by simp)
                  · rw [if_neg c17] at H
                    exact absurd H (by simp)
                · rw [if_neg c16] at H
                  exact absurd H (by simp)
              · rw [if_neg c15] at H
                exact absurd H (by simp)
            · rw [if_neg c14] at H
              exact absurd H (by simp)
          · replace c10 := Bool.eq_false_iff.mpr c10
            subst c10
            have H1 : ((civil_Unix.f k1 (wrap64 (1970 + t180)) 1 1 0 0 0 0).bind fun bt190 => ((civil_Unix.f k1 (wrap64 ((wrap64 (1970 + t180)) + 1)) 1 1 0 0 0 0).bind fun bt192 => ((civil_Unix.f k1 (wrap64 ((wrap64 (1970 + t180)) + 400)) 1 1 0 0 0 0).bind fun bt194 => (if x3_1 = 365 then (if bt190.2 = 0 then (if bt192.2 = 0 then (if bt194.2 = 0 then (if (wrap64 (bt192.1 - bt190.1)) = 31536000 then (some ((wrap64 (bt194.1 - bt190.1)) == 12622780800)) else (none)) else (none)) else (none)) else (none)) else (none))))) = some r := by rw [if_neg (show ¬ (false = true) by decide)] at H; exact H
            clear H
            have H := H1
            clear H1
            replace H := Option.bind_eq_some_iff.mp H
            obtain ⟨⟨t190, t191⟩, A220, H⟩ := H
            replace H : ((civil_Unix.f k1 (wrap64 ((wrap64 (1970 + t180)) + 1)) 1 1 0 0 0 0).bind fun bt192 => ((civil_Unix.f k1 (wrap64 ((wrap64 (1970 + t180)) + 400)) 1 1 0 0 0 0).bind fun bt194 => (if x3_1 = 365 then (if t191 = 0 then (if bt192.2 = 0 then (if bt194.2 = 0 then (if (wrap64 (bt192.1 - t190)) = 31536000 then (some ((wrap64 (bt194.1 - t190)) == 12622780800)) else (none)) else (none)) else (none)) else (none)) else (none)))) = some r := H
            have A22 := Aside0.mk A220
            clear A220
            replace H := Option.bind_eq_some_iff.mp H
            obtain ⟨⟨t192, t193⟩, A230, H⟩ := H
            replace H : ((civil_Unix.f k1 (wrap64 ((wrap64 (1970 + t180)) + 400)) 1 1 0 0 0 0).bind fun bt194 => (if x3_1 = 365 then (if t191 = 0 then (if t193 = 0 then (if bt194.2 = 0 then (if (wrap64 (t192 - t190)) = 31536000 then (some ((wrap64 (bt194.1 - t190)) == 12622780800)) else (none)) else (none)) else (none)) else (none)) else (none))) = some r := H
            have A23 := Aside0.mk A230
            clear A230
            replace H := Option.bind_eq_some_iff.mp H
            obtain ⟨⟨t194, t195⟩, A240, H⟩ := H
            replace H : (if x3_1 = 365 then (if t191 = 0 then (if t193 = 0 then (if t195 = 0 then (if (wrap64 (t192 - t190)) = 31536000 then (some ((wrap64 (t194 - t190)) == 12622780800)) else (none)) else (none)) else (none)) else (none)) else (none)) = some r := H
            have A24 := Aside0.mk A240
            clear A240
            by_cases c25 : x3_1 = 365
            · rw [if_pos c25] at H
              have c25b0 : (x3_1 == 365) = true := beq_iff_eq.mpr c25
              have c25b1 : (x3_1 != 365) = false := bne_eq_false_iff_eq.mpr c25
              clear c25
              by_cases c26 : t191 = 0
              · rw [if_pos c26] at H
                have c26b0 : (t191 == 0) = true := beq_iff_eq.mpr c26
                have c26b1 : (t191 != 0) = false := bne_eq_false_iff_eq.mpr c26
                clear c26
                by_cases c27 : t193 = 0
                · rw [if_pos c27] at H
                  have c27b0 : (t193 == 0) = true := beq_iff_eq.mpr c27
                  have c27b1 : (t193 != 0) = false := bne_eq_false_iff_eq.mpr c27
                  clear c27
                  by_cases c28 : t195 = 0
                  · rw [if_pos c28] at H
                    have c28b0 : (t195 == 0) = true := beq_iff_eq.mpr c28
                    have c28b1 : (t195 != 0) = false := bne_eq_false_iff_eq.mpr c28
                    clear c28
                    by_cases c29 : (wrap64 (t192 - t190)) = 31536000
                    · rw [if_pos c29] at H
                      have c29b0 : ((wrap64 (t192 - t190)) == 31536000) = true := beq_iff_eq.mpr c29
                      have c29b1 : ((wrap64 (t192 - t190)) != 31536000) = false := bne_eq_false_iff_eq.mpr c29
                      clear c29
                      obtain rfl := Option.some.inj H
                      go_wp2_with (first | ((with_reducible refine gate_callee (f := 17) rfl ?_); refine goesL_ (some 35) rfl rfl Tryd.func17 (by kernel_rfl) rfl #[.int .i64 (wrap64 (1970 + t180))] rfl (by (try simp only [List.map_toArray, List.map_cons, List.map_nil]); first | done | rfl | (simp only [List.length_drop, List.length_take]; rfl)) ?_; (with_reducible refine (civil_Leap.calls (wrap64 (1970 + t180)) false _ A9.out).mono ?_); rintro e w' ⟨rfl, ⟨nd, rfl⟩⟩; refine ⟨_, rfl, ?_⟩) | ((with_reducible refine gate_callee (f := 18) rfl ?_); refine goesL_ (some 39) rfl rfl Tryd.func18 (by kernel_rfl) rfl #[.agg #[.int .i64 (wrap64 (1970 + t180)), .int .i64 1, .int .i64 1, .int .i64 0, .int .i64 0, .int .i64 0, .int .i64 0]] rfl (by (try simp only [List.map_toArray, List.map_cons, List.map_nil]); first | done | rfl | (simp only [List.length_drop, List.length_take]; rfl)) ?_; (with_reducible refine (civil_Unix.calls k1 (wrap64 (1970 + t180)) 1 1 0 0 0 0 t190 t191 _ ?side1 A22.out).mono ?_); (case side1 => first | exact HLAID.out | exact Laid.drewN HLAID.out _ | exact Laid.below HLAID.out (by repeat (first | (with_reducible first | exact HB.out | apply below_alloc | apply pw_below_drewN | apply below_drew1) | exact HB.out))); rintro e w30 ⟨rfl, hb⟩; refine ⟨_, rfl, ?_⟩; have n0_ := Aside0.mk (below_step (by repeat (first | (with_reducible first | exact HB.out | apply below_alloc | apply pw_below_drewN | apply below_drew1) | exact HB.out)) hb); clear HB; have HB := n0_; clear n0_; (try clear hb); (try clear hb2); (try clear hk); (try clear hi)) | ((with_reducible refine gate_callee (f := 18) rfl ?_); refine goesL_ (some 46) rfl rfl Tryd.func18 (by kernel_rfl) rfl #[.agg #[.int .i64 (wrap64 ((wrap64 (1970 + t180)) + 1)), .int .i64 1, .int .i64 1, .int .i64 0, .int .i64 0, .int .i64 0, .int .i64 0]] rfl (by (try simp only [List.map_toArray, List.map_cons, List.map_nil]); first | done | rfl | (simp only [List.length_drop, List.length_take]; rfl)) ?_; (with_reducible refine (civil_Unix.calls k1 (wrap64 ((wrap64 (1970 + t180)) + 1)) 1 1 0 0 0 0 t192 t193 _ ?side1 A23.out).mono ?_); (case side1 => first | exact HLAID.out | exact Laid.drewN HLAID.out _ | exact Laid.below HLAID.out (by repeat (first | (with_reducible first | exact HB.out | apply below_alloc | apply pw_below_drewN | apply below_drew1) | exact HB.out))); rintro e w31 ⟨rfl, hb⟩; refine ⟨_, rfl, ?_⟩; have n0_ := Aside0.mk (below_step (by repeat (first | (with_reducible first | exact HB.out | apply below_alloc | apply pw_below_drewN | apply below_drew1) | exact HB.out)) hb); clear HB; have HB := n0_; clear n0_; (try clear hb); (try clear hb2); (try clear hk); (try clear hi)) | ((with_reducible refine gate_callee (f := 18) rfl ?_); refine goesL_ (some 53) rfl rfl Tryd.func18 (by kernel_rfl) rfl #[.agg #[.int .i64 (wrap64 ((wrap64 (1970 + t180)) + 400)), .int .i64 1, .int .i64 1, .int .i64 0, .int .i64 0, .int .i64 0, .int .i64 0]] rfl (by (try simp only [List.map_toArray, List.map_cons, List.map_nil]); first | done | rfl | (simp only [List.length_drop, List.length_take]; rfl)) ?_; (with_reducible refine (civil_Unix.calls k1 (wrap64 ((wrap64 (1970 + t180)) + 400)) 1 1 0 0 0 0 t194 t195 _ ?side1 A24.out).mono ?_); (case side1 => first | exact HLAID.out | exact Laid.drewN HLAID.out _ | exact Laid.below HLAID.out (by repeat (first | (with_reducible first | exact HB.out | apply below_alloc | apply pw_below_drewN | apply below_drew1) | exact HB.out))); rintro e w32 ⟨rfl, hb⟩; refine ⟨_, rfl, ?_⟩; have n0_ := Aside0.mk (below_step (by repeat (first | (with_reducible first | exact HB.out | apply below_alloc | apply pw_below_drewN | apply below_drew1) | exact HB.out)) hb); clear HB; have HB := n0_; clear n0_; (try clear hb); (try clear hb2); (try clear hk); (try clear hi)))
                      go_ret
                      exact ⟨by first | rfl | (simp [errW_none, errW_some] <;> rfl) | (simp [*, errW_none, errW_some] <;> rfl), by repeat (first | (with_reducible first | exact HB.out | apply below_alloc | apply pw_below_drewN | apply below_drew1) | exact HB.out)⟩
                    · rw [if_neg c29] at H
                      exact absurd H (by simp)
                  · rw [if_neg c28] at H
                    exact absurd H (by simp)
                · rw [if_neg c27] at H
                  exact absurd H (by simp)
              · rw [if_neg c26] at H
                exact absurd H (by simp)
            · rw [if_neg c25] at H
              exact absurd H (by simp)
  · replace c3 := Bool.eq_false_iff.mpr c3
    subst c3
    have H1 : (none) = some r := by rw [if_neg (show ¬ (false = true) by decide)] at H; exact H
    clear H
    have H := H1
    clear H1
    exact absurd H (by simp)

/-- THE ONE PURE STATEMENT of garretlaw21_CivilYears: yours. -/
def garretlaw21_CivilYears.Pure : Prop := ∀ (a0 : Int), (Lit.int .i64 a0).wf = true → ∃ k, garretlaw21_CivilYears.f k a0 = some true
theorem garretlaw21_CivilYears.walk (P : garretlaw21_CivilYears.Pure) (a0 : Int) (w : World) (w0 : (Lit.int .i64 a0).wf = true) (hL : Laid w) :
    Calls Tryd.prog 4 #[.int .i64 a0] w fun e w' => e = .returned (.bool true) ∧ Below w.heap.size w w' := by
  obtain ⟨k, h⟩ := P a0 w0
  refine (garretlaw21_CivilYears.calls k a0 true w hL h).mono ?_
  rintro e w' ⟨rfl, hd⟩
  exact ⟨rfl, hd⟩

/-! ### civil_Key: function 21 -/
def civil_Key.f (k : Nat) (a0 : Int) (a1 : Int) : Option (Int × Int) := (civil_Of.f k a1).bind fun bt196 => (if bt196.2.2.2.2.2.2.2 = 0 then (if a0 = 1 then (some (wrap64 (Int.tdiv a1 3600), 0)) else (if a0 = 2 then (some (wrap64 (Int.tdiv a1 86400), 0)) else (if a0 = 3 then (some (wrap64 (Int.tdiv (wrap64 ((wrap64 (Int.tdiv a1 86400)) + 3)) 7), 0)) else (if a0 = 4 then (some (wrap64 ((wrap64 (12 * bt196.1)) + bt196.2.1), 0)) else (if a0 = 5 then (some (bt196.1, 0)) else (some (0, 1))))))) else (some (0, bt196.2.2.2.2.2.2.2)))
theorem civil_Key.mono : ∀ a0 a1 k, LeO (civil_Key.f k a0 a1) (civil_Key.f (k + 1) a0 a1) := by
  intro a0 a1 k
  unfold civil_Key.f
  repeat' first
      | (with_reducible exact civil_Of.mono _ _)
      | (with_reducible exact LeO.refl _)
      | (with_reducible exact LeO.none _)
      | (with_reducible refine LeO.ite ?_ ?_)
      | (with_reducible refine LeO.bind ?_ (fun _ => ?_))
      | exact civil_Of.mono _ _
      | exact LeO.none _
      | refine LeO.ite ?_ ?_
      | refine LeO.bind ?_ (fun _ => ?_)
set_option maxHeartbeats 8000000 in
set_option maxRecDepth 100000 in
theorem civil_Key.calls (k : Nat) (a0 : Int) (a1 : Int) (r1 : Int) (r2 : Int) (w : World) (hL : Laid w) (h : civil_Key.f k a0 a1 = some (r1, r2)) :
    Calls Tryd.prog 21 #[.int .i64 a0, .int .i64 a1] w fun e w' => e = .returned (.tuple #[.int .i64 r1, .int .i64 r2]) ∧ Below w.heap.size w w' := by
  have hu25 := Tryd.underlying25
  have HLAID := Aside0.mk hL
  clear hL
  have HB := Aside0.mk (Below.refl w.heap.size w)
  have H : ((civil_Of.f k a1).bind fun bt196 => (if bt196.2.2.2.2.2.2.2 = 0 then (if a0 = 1 then (some (wrap64 (Int.tdiv a1 3600), 0)) else (if a0 = 2 then (some (wrap64 (Int.tdiv a1 86400), 0)) else (if a0 = 3 then (some (wrap64 (Int.tdiv (wrap64 ((wrap64 (Int.tdiv a1 86400)) + 3)) 7), 0)) else (if a0 = 4 then (some (wrap64 ((wrap64 (12 * bt196.1)) + bt196.2.1), 0)) else (if a0 = 5 then (some (bt196.1, 0)) else (some (0, 1))))))) else (some (0, bt196.2.2.2.2.2.2.2)))) = some (r1, r2) := h
  clear h
  replace H := Option.bind_eq_some_iff.mp H
  obtain ⟨⟨t196, t197, t198, t199, t200, t201, t202, t203⟩, A30, H⟩ := H
  replace H : (if t203 = 0 then (if a0 = 1 then (some (wrap64 (Int.tdiv a1 3600), 0)) else (if a0 = 2 then (some (wrap64 (Int.tdiv a1 86400), 0)) else (if a0 = 3 then (some (wrap64 (Int.tdiv (wrap64 ((wrap64 (Int.tdiv a1 86400)) + 3)) 7), 0)) else (if a0 = 4 then (some (wrap64 ((wrap64 (12 * t196)) + t197), 0)) else (if a0 = 5 then (some (t196, 0)) else (some (0, 1))))))) else (some (0, t203))) = some (r1, r2) := H
  have A3 := Aside0.mk A30
  clear A30
  by_cases c4 : t203 = 0
  · rw [if_pos c4] at H
    have c4b0 : (t203 == 0) = true := beq_iff_eq.mpr c4
    have c4b1 : (t203 != 0) = false := bne_eq_false_iff_eq.mpr c4
    clear c4
    by_cases c5 : a0 = 1
    · rw [if_pos c5] at H
      have c5b0 : (a0 == 1) = true := beq_iff_eq.mpr c5
      have c5b1 : (a0 != 1) = false := bne_eq_false_iff_eq.mpr c5
      clear c5
      simp only [Option.some.injEq, Prod.mk.injEq] at H
      obtain ⟨rfl, rfl⟩ := H
      go_enter Tryd.func21, Tryd.ntmps21
      go_wp2_with (first | ((with_reducible refine gate_callee (f := 15) rfl ?_); refine goesL_ (some 10) rfl rfl Tryd.func15 (by kernel_rfl) rfl #[.int .i64 a1] rfl (by (try simp only [List.map_toArray, List.map_cons, List.map_nil]); first | done | rfl | (simp only [List.length_drop, List.length_take]; rfl)) ?_; (with_reducible refine (civil_Of.calls k a1 t196 t197 t198 t199 t200 t201 t202 t203 _ ?side1 A3.out).mono ?_); (case side1 => first | exact HLAID.out | exact Laid.drewN HLAID.out _ | exact Laid.below HLAID.out (by repeat (first | (with_reducible first | exact HB.out | apply below_alloc | apply pw_below_drewN | apply below_drew1) | exact HB.out))); rintro e w6 ⟨rfl, hb⟩; refine ⟨_, rfl, ?_⟩; have n0_ := Aside0.mk (below_step (by repeat (first | (with_reducible first | exact HB.out | apply below_alloc | apply pw_below_drewN | apply below_drew1) | exact HB.out)) hb); clear HB; have HB := n0_; clear n0_; (try clear hb); (try clear hb2); (try clear hk); (try clear hi)) | ((with_reducible refine gate_dst (N := 6) rfl ?_); refine box_event ?hg (N := 6) ?hd (cs := #[.int .i64 0, .int .i64 0, .int .i64 0, .int .i64 0, .int .i64 0, .int .i64 0, .int .i64 0]) (t := 25) ?hr ?_; (case hd => rfl); (case hg => rfl); (case hr => first | (go_simp; done) | (go_simp; rfl)); intro gb204 hg w7 hbox hb; have n0_ := Aside0.mk (below_step (by repeat (first | (with_reducible first | exact HB.out | apply below_alloc | apply pw_below_drewN | apply below_drew1) | exact HB.out)) hb); have n1_ := Aside0.mk (hbox); have n2_ := Aside0.mk ((by rw [hg]; exact (below_size (by repeat (first | (with_reducible first | exact HB.out | apply below_alloc | apply pw_below_drewN | apply below_drew1) | exact HB.out))) : w.heap.size ≤ gb204)); have n3_ := Aside0.mk ((by rw [hg]; exact (below_size (by repeat (first | (with_reducible first | exact HB.out | apply below_alloc | apply pw_below_drewN | apply below_drew1) | exact HB.out))) : w.heap.size ≤ gb204)); clear HB; have HB := n0_; have BK204 := n1_; have GW204 := n2_; have GE204 := n3_; clear n0_ n1_ n2_ n3_; clear hb hbox hg; obtain ⟨hcz8_0, hcz8_1, hcz8_2, hcz8_3, hcz8_4, hcz8_5, hcz8_6, hfz8_0, hfz8_1, hfz8_2, hfz8_3, hfz8_4, hfz8_5, hfz8_6⟩ := blk_all7 (w := w7) BK204.out))
      go_ret2
      exact ⟨by first | rfl | (simp [errW_none, errW_some] <;> rfl) | (simp [*, errW_none, errW_some] <;> rfl), by repeat (first | (with_reducible first | exact HB.out | apply below_alloc | apply pw_below_drewN | apply below_drew1 | refine below_set ?_ GE204.out) | exact HB.out)⟩
    · rw [if_neg c5] at H
      have c5b0 : (a0 == 1) = false := beq_eq_false_iff_ne.mpr c5
      have c5b1 : (a0 != 1) = true := bne_iff_ne.mpr c5
      by_cases c9 : a0 = 2
      · rw [if_pos c9] at H
        have c9b0 : (a0 == 2) = true := beq_iff_eq.mpr c9
        have c9b1 : (a0 != 2) = false := bne_eq_false_iff_eq.mpr c9
        clear c9
        simp only [Option.some.injEq, Prod.mk.injEq] at H
        obtain ⟨rfl, rfl⟩ := H
        go_enter Tryd.func21, Tryd.ntmps21
        go_wp2_with (first | ((with_reducible refine gate_callee (f := 15) rfl ?_); refine goesL_ (some 10) rfl rfl Tryd.func15 (by kernel_rfl) rfl #[.int .i64 a1] rfl (by (try simp only [List.map_toArray, List.map_cons, List.map_nil]); first | done | rfl | (simp only [List.length_drop, List.length_take]; rfl)) ?_; (with_reducible refine (civil_Of.calls k a1 t196 t197 t198 t199 t200 t201 t202 t203 _ ?side1 A3.out).mono ?_); (case side1 => first | exact HLAID.out | exact Laid.drewN HLAID.out _ | exact Laid.below HLAID.out (by repeat (first | (with_reducible first | exact HB.out | apply below_alloc | apply pw_below_drewN | apply below_drew1) | exact HB.out))); rintro e w10 ⟨rfl, hb⟩; refine ⟨_, rfl, ?_⟩; have n0_ := Aside0.mk (below_step (by repeat (first | (with_reducible first | exact HB.out | apply below_alloc | apply pw_below_drewN | apply below_drew1) | exact HB.out)) hb); clear HB; have HB := n0_; clear n0_; (try clear hb); (try clear hb2); (try clear hk); (try clear hi)) | ((with_reducible refine gate_dst (N := 6) rfl ?_); refine box_event ?hg (N := 6) ?hd (cs := #[.int .i64 0, .int .i64 0, .int .i64 0, .int .i64 0, .int .i64 0, .int .i64 0, .int .i64 0]) (t := 25) ?hr ?_; (case hd => rfl); (case hg => rfl); (case hr => first | (go_simp; done) | (go_simp; rfl)); intro gb204 hg w11 hbox hb; have n0_ := Aside0.mk (below_step (by repeat (first | (with_reducible first | exact HB.out | apply below_alloc | apply pw_below_drewN | apply below_drew1) | exact HB.out)) hb); have n1_ := Aside0.mk (hbox); have n2_ := Aside0.mk ((by rw [hg]; exact (below_size (by repeat (first | (with_reducible first | exact HB.out | apply below_alloc | apply pw_below_drewN | apply below_drew1) | exact HB.out))) : w.heap.size ≤ gb204)); have n3_ := Aside0.mk ((by rw [hg]; exact (below_size (by repeat (first | (with_reducible first | exact HB.out | apply below_alloc | apply pw_below_drewN | apply below_drew1) | exact HB.out))) : w.heap.size ≤ gb204)); clear HB; have HB := n0_; have BK204 := n1_; have GW204 := n2_; have GE204 := n3_; clear n0_ n1_ n2_ n3_; clear hb hbox hg; obtain ⟨hcz12_0, hcz12_1, hcz12_2, hcz12_3, hcz12_4, hcz12_5, hcz12_6, hfz12_0, hfz12_1, hfz12_2, hfz12_3, hfz12_4, hfz12_5, hfz12_6⟩ := blk_all7 (w := w11) BK204.out))
        go_ret2
        exact ⟨by first | rfl | (simp [errW_none, errW_some] <;> rfl) | (simp [*, errW_none, errW_some] <;> rfl), by repeat (first | (with_reducible first | exact HB.out | apply below_alloc | apply pw_below_drewN | apply below_drew1 | refine below_set ?_ GE204.out) | exact HB.out)⟩
      · rw [if_neg c9] at H
        have c9b0 : (a0 == 2) = false := beq_eq_false_iff_ne.mpr c9
        have c9b1 : (a0 != 2) = true := bne_iff_ne.mpr c9
        by_cases c13 : a0 = 3
        · rw [if_pos c13] at H
          have c13b0 : (a0 == 3) = true := beq_iff_eq.mpr c13
          have c13b1 : (a0 != 3) = false := bne_eq_false_iff_eq.mpr c13
          clear c13
          simp only [Option.some.injEq, Prod.mk.injEq] at H
          obtain ⟨rfl, rfl⟩ := H
          go_enter Tryd.func21, Tryd.ntmps21
          go_wp2_with (first | ((with_reducible refine gate_callee (f := 15) rfl ?_); refine goesL_ (some 10) rfl rfl Tryd.func15 (by kernel_rfl) rfl #[.int .i64 a1] rfl (by (try simp only [List.map_toArray, List.map_cons, List.map_nil]); first | done | rfl | (simp only [List.length_drop, List.length_take]; rfl)) ?_; (with_reducible refine (civil_Of.calls k a1 t196 t197 t198 t199 t200 t201 t202 t203 _ ?side1 A3.out).mono ?_); (case side1 => first | exact HLAID.out | exact Laid.drewN HLAID.out _ | exact Laid.below HLAID.out (by repeat (first | (with_reducible first | exact HB.out | apply below_alloc | apply pw_below_drewN | apply below_drew1) | exact HB.out))); rintro e w14 ⟨rfl, hb⟩; refine ⟨_, rfl, ?_⟩; have n0_ := Aside0.mk (below_step (by repeat (first | (with_reducible first | exact HB.out | apply below_alloc | apply pw_below_drewN | apply below_drew1) | exact HB.out)) hb); clear HB; have HB := n0_; clear n0_; (try clear hb); (try clear hb2); (try clear hk); (try clear hi)) | ((with_reducible refine gate_dst (N := 6) rfl ?_); refine box_event ?hg (N := 6) ?hd (cs := #[.int .i64 0, .int .i64 0, .int .i64 0, .int .i64 0, .int .i64 0, .int .i64 0, .int .i64 0]) (t := 25) ?hr ?_; (case hd => rfl); (case hg => rfl); (case hr => first | (go_simp; done) | (go_simp; rfl)); intro gb204 hg w15 hbox hb; have n0_ := Aside0.mk (below_step (by repeat (first | (with_reducible first | exact HB.out | apply below_alloc | apply pw_below_drewN | apply below_drew1) | exact HB.out)) hb); have n1_ := Aside0.mk (hbox); have n2_ := Aside0.mk ((by rw [hg]; exact (below_size (by repeat (first | (with_reducible first | exact HB.out | apply below_alloc | apply pw_below_drewN | apply below_drew1) | exact HB.out))) : w.heap.size ≤ gb204)); have n3_ := Aside0.mk ((by rw [hg]; exact (below_size (by repeat (first | (with_reducible first | exact HB.out | apply below_alloc | apply pw_below_drewN | apply below_drew1) | exact HB.out))) : w.heap.size ≤ gb204)); clear HB; have HB := n0_; have BK204 := n1_; have GW204 := n2_; have GE204 := n3_; clear n0_ n1_ n2_ n3_; clear hb hbox hg; obtain ⟨hcz16_0, hcz16_1, hcz16_2, hcz16_3, hcz16_4, hcz16_5, hcz16_6, hfz16_0, hfz16_1, hfz16_2, hfz16_3, hfz16_4, hfz16_5, hfz16_6⟩ := blk_all7 (w := w15) BK204.out))
          go_ret2
          exact ⟨by first | rfl | (simp [errW_none, errW_some] <;> rfl) | (simp [*, errW_none, errW_some] <;> rfl), by repeat (first | (with_reducible first | exact HB.out | apply below_alloc | apply pw_below_drewN | apply below_drew1 | refine below_set ?_ GE204.out) | exact HB.out)⟩
        · rw [if_neg c13] at H
          have c13b0 : (a0 == 3) = false := beq_eq_false_iff_ne.mpr c13
          have c13b1 : (a0 != 3) = true := bne_iff_ne.mpr c13
          by_cases c17 : a0 = 4
          · rw [if_pos c17] at H
            have c17b0 : (a0 == 4) = true := beq_iff_eq.mpr c17
            have c17b1 : (a0 != 4) = false := bne_eq_false_iff_eq.mpr c17
            clear c17
            simp only [Option.some.injEq, Prod.mk.injEq] at H
            obtain ⟨rfl, rfl⟩ := H
            go_enter Tryd.func21, Tryd.ntmps21
            go_wp2_with (first | ((with_reducible refine gate_callee (f := 15) rfl ?_); refine goesL_ (some 10) rfl rfl Tryd.func15 (by kernel_rfl) rfl #[.int .i64 a1] rfl (by (try simp only [List.map_toArray, List.map_cons, List.map_nil]); first | done | rfl | (simp only [List.length_drop, List.length_take]; rfl)) ?_; (with_reducible refine (civil_Of.calls k a1 t196 t197 t198 t199 t200 t201 t202 t203 _ ?side1 A3.out).mono ?_); (case side1 => first | exact HLAID.out | exact Laid.drewN HLAID.out _ | exact Laid.below HLAID.out (by repeat (first | (with_reducible first | exact HB.out | apply below_alloc | apply pw_below_drewN | apply below_drew1) | exact HB.out))); rintro e w18 ⟨rfl, hb⟩; refine ⟨_, rfl, ?_⟩; have n0_ := Aside0.mk (below_step (by repeat (first | (with_reducible first | exact HB.out | apply below_alloc | apply pw_below_drewN | apply below_drew1) | exact HB.out)) hb); clear HB; have HB := n0_; clear n0_; (try clear hb); (try clear hb2); (try clear hk); (try clear hi)) | ((with_reducible refine gate_dst (N := 6) rfl ?_); refine box_event ?hg (N := 6) ?hd (cs := #[.int .i64 0, .int .i64 0, .int .i64 0, .int .i64 0, .int .i64 0, .int .i64 0, .int .i64 0]) (t := 25) ?hr ?_; (case hd => rfl); (case hg => rfl); (case hr => first | (go_simp; done) | (go_simp; rfl)); intro gb204 hg w19 hbox hb; have n0_ := Aside0.mk (below_step (by repeat (first | (with_reducible first | exact HB.out | apply below_alloc | apply pw_below_drewN | apply below_drew1) | exact HB.out)) hb); have n1_ := Aside0.mk (hbox); have n2_ := Aside0.mk ((by rw [hg]; exact (below_size (by repeat (first | (with_reducible first | exact HB.out | apply below_alloc | apply pw_below_drewN | apply below_drew1) | exact HB.out))) : w.heap.size ≤ gb204)); have n3_ := Aside0.mk ((by rw [hg]; exact (below_size (by repeat (first | (with_reducible first | exact HB.out | apply below_alloc | apply pw_below_drewN | apply below_drew1) | exact HB.out))) : w.heap.size ≤ gb204)); clear HB; have HB := n0_; have BK204 := n1_; have GW204 := n2_; have GE204 := n3_; clear n0_ n1_ n2_ n3_; clear hb hbox hg; obtain ⟨hcz20_0, hcz20_1, hcz20_2, hcz20_3, hcz20_4, hcz20_5, hcz20_6, hfz20_0, hfz20_1, hfz20_2, hfz20_3, hfz20_4, hfz20_5, hfz20_6⟩ := blk_all7 (w := w19) BK204.out))
            go_ret2
            exact ⟨by first | rfl | (simp [errW_none, errW_some] <;> rfl) | (simp [*, errW_none, errW_some] <;> rfl), by repeat (first | (with_reducible first | exact HB.out | apply below_alloc | apply pw_below_drewN | apply below_drew1 | refine below_set ?_ GE204.out) | exact HB.out)⟩
          · rw [if_neg c17] at H
            have c17b0 : (a0 == 4) = false := beq_eq_false_iff_ne.mpr c17
            have c17b1 : (a0 != 4) = true := bne_iff_ne.mpr c17
            by_cases c21 : a0 = 5
            · rw [if_pos c21] at H
              have c21b0 : (a0 == 5) = true := beq_iff_eq.mpr c21
              have c21b1 : (a0 != 5) = false := bne_eq_false_iff_eq.mpr c21
              clear c21
              simp only [Option.some.injEq, Prod.mk.injEq] at H
              obtain ⟨rfl, rfl⟩ := H
              go_enter Tryd.func21, Tryd.ntmps21
              go_wp2_with (first | ((with_reducible refine gate_callee (f := 15) rfl ?_); refine goesL_ (some 10) rfl rfl Tryd.func15 (by kernel_rfl) rfl #[.int .i64 a1] rfl (by (try simp only [List.map_toArray, List.map_cons, List.map_nil]); first | done | rfl | (simp only [List.length_drop, List.length_take]; rfl)) ?_; (with_reducible refine (civil_Of.calls k a1 t196 t197 t198 t199 t200 t201 t202 t203 _ ?side1 A3.out).mono ?_); (case side1 => first | exact HLAID.out | exact Laid.drewN HLAID.out _ | exact Laid.below HLAID.out (by repeat (first | (with_reducible first | exact HB.out | apply below_alloc | apply pw_below_drewN | apply below_drew1) | exact HB.out))); rintro e w22 ⟨rfl, hb⟩; refine ⟨_, rfl, ?_⟩; have n0_ := Aside0.mk (below_step (by repeat (first | (with_reducible first | exact HB.out | apply below_alloc | apply pw_below_drewN | apply below_drew1) | exact HB.out)) hb); clear HB; have HB := n0_; clear n0_; (try clear hb); (try clear hb2); (try clear hk); (try clear hi)) | ((with_reducible refine gate_dst (N := 6) rfl ?_); refine box_event ?hg (N := 6) ?hd (cs := #[.int .i64 0, .int .i64 0, .int .i64 0, .int .i64 0, .int .i64 0, .int .i64 0, .int .i64 0]) (t := 25) ?hr ?_; (case hd => rfl); (case hg => rfl); (case hr => first | (go_simp; done) | (go_simp; rfl)); intro gb204 hg w23 hbox hb; have n0_ := Aside0.mk (below_step (by repeat (first | (with_reducible first | exact HB.out | apply below_alloc | apply pw_below_drewN | apply below_drew1) | exact HB.out)) hb); have n1_ := Aside0.mk (hbox); have n2_ := Aside0.mk ((by rw [hg]; exact (below_size (by repeat (first | (with_reducible first | exact HB.out | apply below_alloc | apply pw_below_drewN | apply below_drew1) | exact HB.out))) : w.heap.size ≤ gb204)); have n3_ := Aside0.mk ((by rw [hg]; exact (below_size (by repeat (first | (with_reducible first | exact HB.out | apply below_alloc | apply pw_below_drewN | apply below_drew1) | exact HB.out))) : w.heap.size ≤ gb204)); clear HB; have HB := n0_; have BK204 := n1_; have GW204 := n2_; have GE204 := n3_; clear n0_ n1_ n2_ n3_; clear hb hbox hg; obtain ⟨hcz24_0, hcz24_1, hcz24_2, hcz24_3, hcz24_4, hcz24_5, hcz24_6, hfz24_0, hfz24_1, hfz24_2, hfz24_3, hfz24_4, hfz24_5, hfz24_6⟩ := blk_all7 (w := w23) BK204.out))
              go_ret2
              exact ⟨by first | rfl | (simp [errW_none, errW_some] <;> rfl) | (simp [*, errW_none, errW_some] <;> rfl), by repeat (first | (with_reducible first | exact HB.out | apply below_alloc | apply pw_below_drewN | apply below_drew1 | refine below_set ?_ GE204.out) | exact HB.out)⟩
            · rw [if_neg c21] at H
              have c21b0 : (a0 == 5) = false := beq_eq_false_iff_ne.mpr c21
              have c21b1 : (a0 != 5) = true := bne_iff_ne.mpr c21
              simp only [Option.some.injEq, Prod.mk.injEq] at H
              obtain ⟨rfl, rfl⟩ := H
              go_enter Tryd.func21, Tryd.ntmps21
              go_wp2_with (first | ((with_reducible refine gate_callee (f := 15) rfl ?_); refine goesL_ (some 10) rfl rfl Tryd.func15 (by kernel_rfl) rfl #[.int .i64 a1] rfl (by (try simp only [List.map_toArray, List.map_cons, List.map_nil]); first | done | rfl | (simp only [List.length_drop, List.length_take]; rfl)) ?_; (with_reducible refine (civil_Of.calls k a1 t196 t197 t198 t199 t200 t201 t202 t203 _ ?side1 A3.out).mono ?_); (case side1 => first | exact HLAID.out | exact Laid.drewN HLAID.out _ | exact Laid.below HLAID.out (by repeat (first | (with_reducible first | exact HB.out | apply below_alloc | apply pw_below_drewN | apply below_drew1) | exact HB.out))); rintro e w25 ⟨rfl, hb⟩; refine ⟨_, rfl, ?_⟩; have n0_ := Aside0.mk (below_step (by repeat (first | (with_reducible first | exact HB.out | apply below_alloc | apply pw_below_drewN | apply below_drew1) | exact HB.out)) hb); clear HB; have HB := n0_; clear n0_; (try clear hb); (try clear hb2); (try clear hk); (try clear hi)) | ((with_reducible refine gate_dst (N := 6) rfl ?_); refine box_event ?hg (N := 6) ?hd (cs := #[.int .i64 0, .int .i64 0, .int .i64 0, .int .i64 0, .int .i64 0, .int .i64 0, .int .i64 0]) (t := 25) ?hr ?_; (case hd => rfl); (case hg => rfl); (case hr => first | (go_simp; done) | (go_simp; rfl)); intro gb204 hg w26 hbox hb; have n0_ := Aside0.mk (below_step (by repeat (first | (with_reducible first | exact HB.out | apply below_alloc | apply pw_below_drewN | apply below_drew1) | exact HB.out)) hb); have n1_ := Aside0.mk (hbox); have n2_ := Aside0.mk ((by rw [hg]; exact (below_size (by repeat (first | (with_reducible first | exact HB.out | apply below_alloc | apply pw_below_drewN | apply below_drew1) | exact HB.out))) : w.heap.size ≤ gb204)); have n3_ := Aside0.mk ((by rw [hg]; exact (below_size (by repeat (first | (with_reducible first | exact HB.out | apply below_alloc | apply pw_below_drewN | apply below_drew1) | exact HB.out))) : w.heap.size ≤ gb204)); clear HB; have HB := n0_; have BK204 := n1_; have GW204 := n2_; have GE204 := n3_; clear n0_ n1_ n2_ n3_; clear hb hbox hg; obtain ⟨hcz27_0, hcz27_1, hcz27_2, hcz27_3, hcz27_4, hcz27_5, hcz27_6, hfz27_0, hfz27_1, hfz27_2, hfz27_3, hfz27_4, hfz27_5, hfz27_6⟩ := blk_all7 (w := w26) BK204.out))
              go_ret2
              exact ⟨by first | rfl | (simp [errW_none, errW_some] <;> rfl) | (simp [*, errW_none, errW_some] <;> rfl), by repeat (first | (with_reducible first | exact HB.out | apply below_alloc | apply pw_below_drewN | apply below_drew1 | refine below_set ?_ GE204.out) | exact HB.out)⟩
  · rw [if_neg c4] at H
    have c4b0 : (t203 == 0) = false := beq_eq_false_iff_ne.mpr c4
    have c4b1 : (t203 != 0) = true := bne_iff_ne.mpr c4
    simp only [Option.some.injEq, Prod.mk.injEq] at H
    obtain ⟨rfl, rfl⟩ := H
    go_enter Tryd.func21, Tryd.ntmps21
    go_wp2_with (first | ((with_reducible refine gate_callee (f := 15) rfl ?_); refine goesL_ (some 10) rfl rfl Tryd.func15 (by kernel_rfl) rfl #[.int .i64 a1] rfl (by (try simp only [List.map_toArray, List.map_cons, List.map_nil]); first | done | rfl | (simp only [List.length_drop, List.length_take]; rfl)) ?_; (with_reducible refine (civil_Of.calls k a1 t196 t197 t198 t199 t200 t201 t202 t203 _ ?side1 A3.out).mono ?_); (case side1 => first | exact HLAID.out | exact Laid.drewN HLAID.out _ | exact Laid.below HLAID.out (by repeat (first | (with_reducible first | exact HB.out | apply below_alloc | apply pw_below_drewN | apply below_drew1) | exact HB.out))); rintro e w28 ⟨rfl, hb⟩; refine ⟨_, rfl, ?_⟩; have n0_ := Aside0.mk (below_step (by repeat (first | (with_reducible first | exact HB.out | apply below_alloc | apply pw_below_drewN | apply below_drew1) | exact HB.out)) hb); clear HB; have HB := n0_; clear n0_; (try clear hb); (try clear hb2); (try clear hk); (try clear hi)) | ((with_reducible refine gate_dst (N := 6) rfl ?_); refine box_event ?hg (N := 6) ?hd (cs := #[.int .i64 0, .int .i64 0, .int .i64 0, .int .i64 0, .int .i64 0, .int .i64 0, .int .i64 0]) (t := 25) ?hr ?_; (case hd => rfl); (case hg => rfl); (case hr => first | (go_simp; done) | (go_simp; rfl)); intro gb204 hg w29 hbox hb; have n0_ := Aside0.mk (below_step (by repeat (first | (with_reducible first | exact HB.out | apply below_alloc | apply pw_below_drewN | apply below_drew1) | exact HB.out)) hb); have n1_ := Aside0.mk (hbox); have n2_ := Aside0.mk ((by rw [hg]; exact (below_size (by repeat (first | (with_reducible first | exact HB.out | apply below_alloc | apply pw_below_drewN | apply below_drew1) | exact HB.out))) : w.heap.size ≤ gb204)); have n3_ := Aside0.mk ((by rw [hg]; exact (below_size (by repeat (first | (with_reducible first | exact HB.out | apply below_alloc | apply pw_below_drewN | apply below_drew1) | exact HB.out))) : w.heap.size ≤ gb204)); clear HB; have HB := n0_; have BK204 := n1_; have GW204 := n2_; have GE204 := n3_; clear n0_ n1_ n2_ n3_; clear hb hbox hg; obtain ⟨hcz30_0, hcz30_1, hcz30_2, hcz30_3, hcz30_4, hcz30_5, hcz30_6, hfz30_0, hfz30_1, hfz30_2, hfz30_3, hfz30_4, hfz30_5, hfz30_6⟩ := blk_all7 (w := w29) BK204.out))
    go_ret2
    exact ⟨by first | rfl | (simp [errW_none, errW_some] <;> rfl) | (simp [*, errW_none, errW_some] <;> rfl), by repeat (first | (with_reducible first | exact HB.out | apply below_alloc | apply pw_below_drewN | apply below_drew1 | refine below_set ?_ GE204.out) | exact HB.out)⟩

/-! ### civil_WeekOf: function 22 -/
def civil_WeekOf.f (k : Nat) (a0 : Int) : Option (Int × Int × Int) := (civil_Of.f k a0).bind fun bt205 => (if bt205.2.2.2.2.2.2.2 = 0 then ((civil_before.f bt205.1).bind fun t214 => ((civil_before.f 1970).bind fun t215 => (if (wrap64 ((wrap64 ((wrap64 (Int.tdiv a0 86400)) + 4)) - bt205.2.2.2.2.2.2.1)) < (wrap64 (t214 - t215)) then ((civil_before.f (wrap64 (bt205.1 - 1))).bind fun t216 => ((civil_before.f 1970).bind fun t217 => (some (wrap64 (bt205.1 - 1), wrap64 ((wrap64 (Int.tdiv (wrap64 ((wrap64 ((wrap64 ((wrap64 ((wrap64 (Int.tdiv a0 86400)) + 4)) - bt205.2.2.2.2.2.2.1)) - t216)) + t217)) 7)) + 1), 0)))) else ((civil_before.f (wrap64 (bt205.1 + 1))).bind fun t218 => ((civil_before.f 1970).bind fun t219 => (if (wrap64 ((wrap64 ((wrap64 (Int.tdiv a0 86400)) + 4)) - bt205.2.2.2.2.2.2.1)) ≥ (wrap64 (t218 - t219)) then ((civil_before.f (wrap64 (bt205.1 + 1))).bind fun t220 => ((civil_before.f 1970).bind fun t221 => (some (wrap64 (bt205.1 + 1), wrap64 ((wrap64 (Int.tdiv (wrap64 ((wrap64 ((wrap64 ((wrap64 ((wrap64 (Int.tdiv a0 86400)) + 4)) - bt205.2.2.2.2.2.2.1)) - t220)) + t221)) 7)) + 1), 0)))) else ((civil_before.f bt205.1).bind fun t222 => ((civil_before.f 1970).bind fun t223 => (some (bt205.1, wrap64 ((wrap64 (Int.tdiv (wrap64 ((wrap64 ((wrap64 ((wrap64 ((wrap64 (Int.tdiv a0 86400)) + 4)) - bt205.2.2.2.2.2.2.1)) - t222)) + t223)) 7)) + 1), 0)))))))))) else (some (0, 0, bt205.2.2.2.2.2.2.2)))
theorem civil_WeekOf.mono : ∀ a0 k, LeO (civil_WeekOf.f k a0) (civil_WeekOf.f (k + 1) a0) := by
  intro a0 k
  unfold civil_WeekOf.f
  repeat' first
      | (with_reducible exact civil_Of.mono _ _)
      | (with_reducible exact LeO.refl _)
      | (with_reducible exact LeO.none _)
      | (with_reducible refine LeO.ite ?_ ?_)
      | (with_reducible refine LeO.bind ?_ (fun _ => ?_))
      | exact civil_Of.mono _ _
      | exact LeO.none _
      | refine LeO.ite ?_ ?_
      | refine LeO.bind ?_ (fun _ => ?_)
set_option maxHeartbeats 8000000 in
set_option maxRecDepth 100000 in
theorem civil_WeekOf.calls (k : Nat) (a0 : Int) (r1 : Int) (r2 : Int) (r3 : Int) (w : World) (hL : Laid w) (h : civil_WeekOf.f k a0 = some (r1, r2, r3)) :
    Calls Tryd.prog 22 #[.int .i64 a0] w fun e w' => e = .returned (.tuple #[.int .i64 r1, .int .i64 r2, .int .i64 r3]) ∧ Below w.heap.size w w' := by
  have hu25 := Tryd.underlying25
  have HLAID := Aside0.mk hL
  clear hL
  have HB := Aside0.mk (Below.refl w.heap.size w)
  have H : ((civil_Of.f k a0).bind fun bt205 => (if bt205.2.2.2.2.2.2.2 = 0 then ((civil_before.f bt205.1).bind fun t214 => ((civil_before.f 1970).bind fun t215 => (if (wrap64 ((wrap64 ((wrap64 (Int.tdiv a0 86400)) + 4)) - bt205.2.2.2.2.2.2.1)) < (wrap64 (t214 - t215)) then ((civil_before.f (wrap64 (bt205.1 - 1))).bind fun t216 => ((civil_before.f 1970).bind fun t217 => (some (wrap64 (bt205.1 - 1), wrap64 ((wrap64 (Int.tdiv (wrap64 ((wrap64 ((wrap64 ((wrap64 ((wrap64 (Int.tdiv a0 86400)) + 4)) - bt205.2.2.2.2.2.2.1)) - t216)) + t217)) 7)) + 1), 0)))) else ((civil_before.f (wrap64 (bt205.1 + 1))).bind fun t218 => ((civil_before.f 1970).bind fun t219 => (if (wrap64 ((wrap64 ((wrap64 (Int.tdiv a0 86400)) + 4)) - bt205.2.2.2.2.2.2.1)) ≥ (wrap64 (t218 - t219)) then ((civil_before.f (wrap64 (bt205.1 + 1))).bind fun t220 => ((civil_before.f 1970).bind fun t221 => (some (wrap64 (bt205.1 + 1), wrap64 ((wrap64 (Int.tdiv (wrap64 ((wrap64 ((wrap64 ((wrap64 ((wrap64 (Int.tdiv a0 86400)) + 4)) - bt205.2.2.2.2.2.2.1)) - t220)) + t221)) 7)) + 1), 0)))) else ((civil_before.f bt205.1).bind fun t222 => ((civil_before.f 1970).bind fun t223 => (some (bt205.1, wrap64 ((wrap64 (Int.tdiv (wrap64 ((wrap64 ((wrap64 ((wrap64 ((wrap64 (Int.tdiv a0 86400)) + 4)) - bt205.2.2.2.2.2.2.1)) - t222)) + t223)) 7)) + 1), 0)))))))))) else (some (0, 0, bt205.2.2.2.2.2.2.2)))) = some (r1, r2, r3) := h
  clear h
  replace H := Option.bind_eq_some_iff.mp H
  obtain ⟨⟨t205, t206, t207, t208, t209, t210, t211, t212⟩, A20, H⟩ := H
  replace H : (if t212 = 0 then ((civil_before.f t205).bind fun t214 => ((civil_before.f 1970).bind fun t215 => (if (wrap64 ((wrap64 ((wrap64 (Int.tdiv a0 86400)) + 4)) - t211)) < (wrap64 (t214 - t215)) then ((civil_before.f (wrap64 (t205 - 1))).bind fun t216 => ((civil_before.f 1970).bind fun t217 => (some (wrap64 (t205 - 1), wrap64 ((wrap64 (Int.tdiv (wrap64 ((wrap64 ((wrap64 ((wrap64 ((wrap64 (Int.tdiv a0 86400)) + 4)) - t211)) - t216)) + t217)) 7)) + 1), 0)))) else ((civil_before.f (wrap64 (t205 + 1))).bind fun t218 => ((civil_before.f 1970).bind fun t219 => (if (wrap64 ((wrap64 ((wrap64 (Int.tdiv a0 86400)) + 4)) - t211)) ≥ (wrap64 (t218 - t219)) then ((civil_before.f (wrap64 (t205 + 1))).bind fun t220 => ((civil_before.f 1970).bind fun t221 => (some (wrap64 (t205 + 1), wrap64 ((wrap64 (Int.tdiv (wrap64 ((wrap64 ((wrap64 ((wrap64 ((wrap64 (Int.tdiv a0 86400)) + 4)) - t211)) - t220)) + t221)) 7)) + 1), 0)))) else ((civil_before.f t205).bind fun t222 => ((civil_before.f 1970).bind fun t223 => (some (t205, wrap64 ((wrap64 (Int.tdiv (wrap64 ((wrap64 ((wrap64 ((wrap64 ((wrap64 (Int.tdiv a0 86400)) + 4)) - t211)) - t222)) + t223)) 7)) + 1), 0)))))))))) else (some (0, 0, t212))) = some (r1, r2, r3) := H
  have A2 := Aside0.mk A20
  clear A20
  by_cases c3 : t212 = 0
  · rw [if_pos c3] at H
    have c3b0 : (t212 == 0) = true := beq_iff_eq.mpr c3
    have c3b1 : (t212 != 0) = false := bne_eq_false_iff_eq.mpr c3
    clear c3
    replace H := Option.bind_eq_some_iff.mp H
    obtain ⟨t214, A40, H⟩ := H
    replace H : ((civil_before.f 1970).bind fun t215 => (if (wrap64 ((wrap64 ((wrap64 (Int.tdiv a0 86400)) + 4)) - t211)) < (wrap64 (t214 - t215)) then ((civil_before.f (wrap64 (t205 - 1))).bind fun t216 => ((civil_before.f 1970).bind fun t217 => (some (wrap64 (t205 - 1), wrap64 ((wrap64 (Int.tdiv (wrap64 ((wrap64 ((wrap64 ((wrap64 ((wrap64 (Int.tdiv a0 86400)) + 4)) - t211)) - t216)) + t217)) 7)) + 1), 0)))) else ((civil_before.f (wrap64 (t205 + 1))).bind fun t218 => ((civil_before.f 1970).bind fun t219 => (if (wrap64 ((wrap64 ((wrap64 (Int.tdiv a0 86400)) + 4)) - t211)) ≥ (wrap64 (t218 - t219)) then ((civil_before.f (wrap64 (t205 + 1))).bind fun t220 => ((civil_before.f 1970).bind fun t221 => (some (wrap64 (t205 + 1), wrap64 ((wrap64 (Int.tdiv (wrap64 ((wrap64 ((wrap64 ((wrap64 ((wrap64 (Int.tdiv a0 86400)) + 4)) - t211)) - t220)) + t221)) 7)) + 1), 0)))) else ((civil_before.f t205).bind fun t222 => ((civil_before.f 1970).bind fun t223 => (some (t205, wrap64 ((wrap64 (Int.tdiv (wrap64 ((wrap64 ((wrap64 ((wrap64 ((wrap64 (Int.tdiv a0 86400)) + 4)) - t211)) - t222)) + t223)) 7)) + 1), 0))))))))) = some (r1, r2, r3) := H
    have A4 := Aside0.mk A40
    clear A40
    replace H := Option.bind_eq_some_iff.mp H
    obtain ⟨t215, A50, H⟩ := H
    replace H : (if (wrap64 ((wrap64 ((wrap64 (Int.tdiv a0 86400)) + 4)) - t211)) < (wrap64 (t214 - t215)) then ((civil_before.f (wrap64 (t205 - 1))).bind fun t216 => ((civil_before.f 1970).bind fun t217 => (some (wrap64 (t205 - 1), wrap64 ((wrap64 (Int.tdiv (wrap64 ((wrap64 ((wrap64 ((wrap64 ((wrap64 (Int.tdiv a0 86400)) + 4)) - t211)) - t216)) + t217)) 7)) + 1), 0)))) else ((civil_before.f (wrap64 (t205 + 1))).bind fun t218 => ((civil_before.f 1970).bind fun t219 => (if (wrap64 ((wrap64 ((wrap64 (Int.tdiv a0 86400)) + 4)) - t211)) ≥ (wrap64 (t218 - t219)) then ((civil_before.f (wrap64 (t205 + 1))).bind fun t220 => ((civil_before.f 1970).bind fun t221 => (some (wrap64 (t205 + 1), wrap64 ((wrap64 (Int.tdiv (wrap64 ((wrap64 ((wrap64 ((wrap64 ((wrap64 (Int.tdiv a0 86400)) + 4)) - t211)) - t220)) + t221)) 7)) + 1), 0)))) else ((civil_before.f t205).bind fun t222 => ((civil_before.f 1970).bind fun t223 => (some (t205, wrap64 ((wrap64 (Int.tdiv (wrap64 ((wrap64 ((wrap64 ((wrap64 ((wrap64 (Int.tdiv a0 86400)) + 4)) - t211)) - t222)) + t223)) 7)) + 1), 0)))))))) = some (r1, r2, r3) := H
    have A5 := Aside0.mk A50
    clear A50
    by_cases c6 : (wrap64 ((wrap64 ((wrap64 (Int.tdiv a0 86400)) + 4)) - t211)) < (wrap64 (t214 - t215))
    · rw [if_pos c6] at H
      have c6b0 : decide ((wrap64 ((wrap64 ((wrap64 (Int.tdiv a0 86400)) + 4)) - t211)) < (wrap64 (t214 - t215))) = true := decide_eq_true c6
      clear c6
      replace H := Option.bind_eq_some_iff.mp H
      obtain ⟨t216, A70, H⟩ := H
      replace H : ((civil_before.f 1970).bind fun t217 => (some (wrap64 (t205 - 1), wrap64 ((wrap64 (Int.tdiv (wrap64 ((wrap64 ((wrap64 ((wrap64 ((wrap64 (Int.tdiv a0 86400)) + 4)) - t211)) - t216)) + t217)) 7)) + 1), 0))) = some (r1, r2, r3) := H
      have A7 := Aside0.mk A70
      clear A70
      replace H := Option.bind_eq_some_iff.mp H
      obtain ⟨t217, A80, H⟩ := H
      replace H : (some (wrap64 (t205 - 1), wrap64 ((wrap64 (Int.tdiv (wrap64 ((wrap64 ((wrap64 ((wrap64 ((wrap64 (Int.tdiv a0 86400)) + 4)) - t211)) - t216)) + t217)) 7)) + 1), 0)) = some (r1, r2, r3) := H
      have A8 := Aside0.mk A80
      clear A80
      simp only [Option.some.injEq, Prod.mk.injEq] at H
      obtain ⟨rfl, rfl, rfl⟩ := H
      go_enter Tryd.func22, Tryd.ntmps22
      go_wp2_with (first | ((with_reducible refine gate_callee (f := 15) rfl ?_); refine goesL_ (some 9) rfl rfl Tryd.func15 (by kernel_rfl) rfl #[.int .i64 a0] rfl (by (try simp only [List.map_toArray, List.map_cons, List.map_nil]); first | done | rfl | (simp only [List.length_drop, List.length_take]; rfl)) ?_; (with_reducible refine (civil_Of.calls k a0 t205 t206 t207 t208 t209 t210 t211 t212 _ ?side1 A2.out).mono ?_); (case side1 => first | exact HLAID.out | exact Laid.drewN HLAID.out _ | exact Laid.below HLAID.out (by repeat (first | (with_reducible first | exact HB.out | apply below_alloc | apply pw_below_drewN | apply below_drew1) | exact HB.out))); rintro e w9 ⟨rfl, hb⟩; refine ⟨_, rfl, ?_⟩; have n0_ := Aside0.mk (below_step (by repeat (first | (with_reducible first | exact HB.out | apply below_alloc | apply pw_below_drewN | apply below_drew1) | exact HB.out)) hb); clear HB; have HB := n0_; clear n0_; (try clear hb); (try clear hb2); (try clear hk); (try clear hi)) | ((with_reducible refine gate_dst (N := 5) rfl ?_); refine box_event ?hg (N := 5) ?hd (cs := #[.int .i64 0, .int .i64 0, .int .i64 0, .int .i64 0, .int .i64 0, .int .i64 0, .int .i64 0]) (t := 25) ?hr ?_; (case hd => rfl); (case hg => rfl); (case hr => first | (go_simp; done) | (go_simp; rfl)); intro gb213 hg w10 hbox hb; have n0_ := Aside0.mk (below_step (by repeat (first | (with_reducible first | exact HB.out | apply below_alloc | apply pw_below_drewN | apply below_drew1) | exact HB.out)) hb); have n1_ := Aside0.mk (hbox); have n2_ := Aside0.mk ((by rw [hg]; exact (below_size (by repeat (first | (with_reducible first | exact HB.out | apply below_alloc | apply pw_below_drewN | apply below_drew1) | exact HB.out))) : w.heap.size ≤ gb213)); have n3_ := Aside0.mk ((by rw [hg]; exact (below_size (by repeat (first | (with_reducible first | exact HB.out | apply below_alloc | apply pw_below_drewN | apply below_drew1) | exact HB.out))) : w.heap.size ≤ gb213)); clear HB; have HB := n0_; have BK213 := n1_; have GW213 := n2_; have GE213 := n3_; clear n0_ n1_ n2_ n3_; clear hb hbox hg; obtain ⟨hcz11_0, hcz11_1, hcz11_2, hcz11_3, hcz11_4, hcz11_5, hcz11_6, hfz11_0, hfz11_1, hfz11_2, hfz11_3, hfz11_4, hfz11_5, hfz11_6⟩ := blk_all7 (w := w10) BK213.out) | ((with_reducible refine gate_callee (f := 50) rfl ?_); refine goesL_ (some 25) rfl rfl Tryd.func50 (by kernel_rfl) rfl #[.int .i64 t205] rfl (by (try simp only [List.map_toArray, List.map_cons, List.map_nil]); first | done | rfl | (simp only [List.length_drop, List.length_take]; rfl)) ?_; (with_reducible refine (civil_before.calls t205 t214 _ A4.out).mono ?_); rintro e w' ⟨rfl, ⟨nd, rfl⟩⟩; refine ⟨_, rfl, ?_⟩) | ((with_reducible refine gate_callee (f := 50) rfl ?_); refine goesL_ (some 26) rfl rfl Tryd.func50 (by kernel_rfl) rfl #[.int .i64 1970] rfl (by (try simp only [List.map_toArray, List.map_cons, List.map_nil]); first | done | rfl | (simp only [List.length_drop, List.length_take]; rfl)) ?_; (with_reducible refine (civil_before.calls 1970 t215 _ A5.out).mono ?_); rintro e w' ⟨rfl, ⟨nd, rfl⟩⟩; refine ⟨_, rfl, ?_⟩) | ((with_reducible refine gate_callee (f := 50) rfl ?_); refine goesL_ (some 43) rfl rfl Tryd.func50 (by kernel_rfl) rfl #[.int .i64 (wrap64 (t205 - 1))] rfl (by (try simp only [List.map_toArray, List.map_cons, List.map_nil]); first | done | rfl | (simp only [List.length_drop, List.length_take]; rfl)) ?_; (with_reducible refine (civil_before.calls (wrap64 (t205 - 1)) t216 _ A7.out).mono ?_); rintro e w' ⟨rfl, ⟨nd, rfl⟩⟩; refine ⟨_, rfl, ?_⟩) | ((with_reducible refine gate_callee (f := 50) rfl ?_); refine goesL_ (some 45) rfl rfl Tryd.func50 (by kernel_rfl) rfl #[.int .i64 1970] rfl (by (try simp only [List.map_toArray, List.map_cons, List.map_nil]); first | done | rfl | (simp only [List.length_drop, List.length_take]; rfl)) ?_; (with_reducible refine (civil_before.calls 1970 t217 _ A8.out).mono ?_); rintro e w' ⟨rfl, ⟨nd, rfl⟩⟩; refine ⟨_, rfl, ?_⟩))
      go_ret3
      exact ⟨by first | rfl | (simp [errW_none, errW_some] <;> rfl) | (simp [*, errW_none, errW_some] <;> rfl), by repeat (first | (with_reducible first | exact HB.out | apply below_alloc | apply pw_below_drewN | apply below_drew1 | refine below_set ?_ GE213.out) | exact HB.out)⟩
    · rw [if_neg c6] at H
      have c6b0 : decide ((wrap64 ((wrap64 ((wrap64 (Int.tdiv a0 86400)) + 4)) - t211)) < (wrap64 (t214 - t215))) = false := decide_eq_false c6
      clear c6
      replace H := Option.bind_eq_some_iff.mp H
      obtain ⟨t218, A120, H⟩ := H
      replace H : ((civil_before.f 1970).bind fun t219 => (if (wrap64 ((wrap64 ((wrap64 (Int.tdiv a0 86400)) + 4)) - t211)) ≥ (wrap64 (t218 - t219)) then ((civil_before.f (wrap64 (t205 + 1))).bind fun t220 => ((civil_before.f 1970).bind fun t221 => (some (wrap64 (t205 + 1), wrap64 ((wrap64 (Int.tdiv (wrap64 ((wrap64 ((wrap64 ((wrap64 ((wrap64 (Int.tdiv a0 86400)) + 4)) - t211)) - t220)) + t221)) 7)) + 1), 0)))) else ((civil_before.f t205).bind fun t222 => ((civil_before.f 1970).bind fun t223 => (some (t205, wrap64 ((wrap64 (Int.tdiv (wrap64 ((wrap64 ((wrap64 ((wrap64 ((wrap64 (Int.tdiv a0 86400)) + 4)) - t211)) - t222)) + t223)) 7)) + 1), 0)))))) = some (r1, r2, r3) := H
      have A12 := Aside0.mk A120
      clear A120
      replace H := Option.bind_eq_some_iff.mp H
      obtain ⟨t219, A130, H⟩ := H
      replace H : (if (wrap64 ((wrap64 ((wrap64 (Int.tdiv a0 86400)) + 4)) - t211)) ≥ (wrap64 (t218 - t219)) then ((civil_before.f (wrap64 (t205 + 1))).bind fun t220 => ((civil_before.f 1970).bind fun t221 => (some (wrap64 (t205 + 1), wrap64 ((wrap64 (Int.tdiv (wrap64 ((wrap64 ((wrap64 ((wrap64 ((wrap64 (Int.tdiv a0 86400)) + 4)) - t211)) - t220)) + t221)) 7)) + 1), 0)))) else ((civil_before.f t205).bind fun t222 => ((civil_before.f 1970).bind fun t223 => (some (t205, wrap64 ((wrap64 (Int.tdiv (wrap64 ((wrap64 ((wrap64 ((wrap64 ((wrap64 (Int.tdiv a0 86400)) + 4)) - t211)) - t222)) + t223)) 7)) + 1), 0))))) = some (r1, r2, r3) := H
      have A13 := Aside0.mk A130
      clear A130
      by_cases c14 : (wrap64 ((wrap64 ((wrap64 (Int.tdiv a0 86400)) + 4)) - t211)) ≥ (wrap64 (t218 - t219))
      · rw [if_pos c14] at H
        have c14b0 : decide ((wrap64 (t218 - t219)) ≤ (wrap64 ((wrap64 ((wrap64 (Int.tdiv a0 86400)) + 4)) - t211))) = true := decide_eq_true c14
        clear c14
        replace H := Option.bind_eq_some_iff.mp H
        obtain ⟨t220, A150, H⟩ := H
        replace H : ((civil_before.f 1970).bind fun t221 => (some (wrap64 (t205 + 1), wrap64 ((wrap64 (Int.tdiv (wrap64 ((wrap64 ((wrap64 ((wrap64 ((wrap64 (Int.tdiv a0 86400)) + 4)) - t211)) - t220)) + t221)) 7)) + 1), 0))) = some (r1, r2, r3) := H
        have A15 := Aside0.mk A150
        clear A150
        replace H := Option.bind_eq_some_iff.mp H
        obtain ⟨t221, A160, H⟩ := H
        replace H : (some (wrap64 (t205 + 1), wrap64 ((wrap64 (Int.tdiv (wrap64 ((wrap64 ((wrap64 ((wrap64 ((wrap64 (Int.tdiv a0 86400)) + 4)) - t211)) - t220)) + t221)) 7)) + 1), 0)) = some (r1, r2, r3) := H
        have A16 := Aside0.mk A160
        clear A160
        simp only [Option.some.injEq, Prod.mk.injEq] at H
        obtain ⟨rfl, rfl, rfl⟩ := H
        go_enter Tryd.func22, Tryd.ntmps22
        go_wp2_with (first | ((with_reducible refine gate_callee (f := 15) rfl ?_); refine goesL_ (some 9) rfl rfl Tryd.func15 (by kernel_rfl) rfl #[.int .i64 a0] rfl (by (try simp only [List.map_toArray, List.map_cons, List.map_nil]); first | done | rfl | (simp only [List.length_drop, List.length_take]; rfl)) ?_; (with_reducible refine (civil_Of.calls k a0 t205 t206 t207 t208 t209 t210 t211 t212 _ ?side1 A2.out).mono ?_); (case side1 => first | exact HLAID.out | exact Laid.drewN HLAID.out _ | exact Laid.below HLAID.out (by repeat (first | (with_reducible first | exact HB.out | apply below_alloc | apply pw_below_drewN | apply below_drew1) | exact HB.out))); rintro e w17 ⟨rfl, hb⟩; refine ⟨_, rfl, ?_⟩; have n0_ := Aside0.mk (below_step (by repeat (first | (with_reducible first | exact HB.out | apply below_alloc | apply pw_below_drewN | apply below_drew1) | exact HB.out)) hb); clear HB; have HB := n0_; clear n0_; (try clear hb); (try clear hb2); (try clear hk); (try clear hi)) | ((with_reducible refine gate_dst (N := 5) rfl ?_); refine box_event ?hg (N := 5) ?hd (cs := #[.int .i64 0, .int .i64 0, .int .i64 0, .int .i64 0, .int .i64 0, .int .i64 0, .int .i64 0]) (t := 25) ?hr ?_; (case hd => rfl); (case hg => rfl); (case hr => first | (go_simp; done) | (go_simp; rfl)); intro gb213 hg w18 hbox hb; have n0_ := Aside0.mk (below_step (by repeat (first | (with_reducible first | exact HB.out | apply below_alloc | apply pw_below_drewN | apply below_drew1) | exact HB.out)) hb); have n1_ := Aside0.mk (hbox); have n2_ := Aside0.mk ((by rw [hg]; exact (below_size (by repeat (first | (with_reducible first | exact HB.out | apply below_alloc | apply pw_below_drewN | apply below_drew1) | exact HB.out))) : w.heap.size ≤ gb213)); have n3_ := Aside0.mk ((by rw [hg]; exact (below_size (by repeat (first | (with_reducible first | exact HB.out | apply below_alloc | apply pw_below_drewN | apply below_drew1) | exact HB.out))) : w.heap.size ≤ gb213)); clear HB; have HB := n0_; have BK213 := n1_; have GW213 := n2_; have GE213 := n3_; clear n0_ n1_ n2_ n3_; clear hb hbox hg; obtain ⟨hcz19_0, hcz19_1, hcz19_2, hcz19_3, hcz19_4, hcz19_5, hcz19_6, hfz19_0, hfz19_1, hfz19_2, hfz19_3, hfz19_4, hfz19_5, hfz19_6⟩ := blk_all7 (w := w18) BK213.out) | ((with_reducible refine gate_callee (f := 50) rfl ?_); refine goesL_ (some 25) rfl rfl Tryd.func50 (by kernel_rfl) rfl #[.int .i64 t205] rfl (by (try simp only [List.map_toArray, List.map_cons, List.map_nil]); first | done | rfl | (simp only [List.length_drop, List.length_take]; rfl)) ?_; (with_reducible refine (civil_before.calls t205 t214 _ A4.out).mono ?_); rintro e w' ⟨rfl, ⟨nd, rfl⟩⟩; refine ⟨_, rfl, ?_⟩) | ((with_reducible refine gate_callee (f := 50) rfl ?_); refine goesL_ (some 26) rfl rfl Tryd.func50 (by kernel_rfl) rfl #[.int .i64 1970] rfl (by (try simp only [List.map_toArray, List.map_cons, List.map_nil]); first | done | rfl | (simp only [List.length_drop, List.length_take]; rfl)) ?_; (with_reducible refine (civil_before.calls 1970 t215 _ A5.out).mono ?_); rintro e w' ⟨rfl, ⟨nd, rfl⟩⟩; refine ⟨_, rfl, ?_⟩) | ((with_reducible refine gate_callee (f := 50) rfl ?_); refine goesL_ (some 34) rfl rfl Tryd.func50 (by kernel_rfl) rfl #[.int .i64 (wrap64 (t205 + 1))] rfl (by (try simp only [List.map_toArray, List.map_cons, List.map_nil]); first | done | rfl | (simp only [List.length_drop, List.length_take]; rfl)) ?_; (with_reducible refine (civil_before.calls (wrap64 (t205 + 1)) t218 _ A12.out).mono ?_); rintro e w' ⟨rfl, ⟨nd, rfl⟩⟩; refine ⟨_, rfl, ?_⟩) | ((with_reducible refine gate_callee (f := 50) rfl ?_); refine goesL_ (some 35) rfl rfl Tryd.func50 (by kernel_rfl) rfl #[.int .i64 1970] rfl (by (try simp only [List.map_toArray, List.map_cons, List.map_nil]); first | done | rfl | (simp only [List.length_drop, List.length_take]; rfl)) ?_; (with_reducible refine (civil_before.calls 1970 t219 _ A13.out).mono ?_); rintro e w' ⟨rfl, ⟨nd, rfl⟩⟩; refine ⟨_, rfl, ?_⟩) | ((with_reducible refine gate_callee (f := 50) rfl ?_); refine goesL_ (some 43) rfl rfl Tryd.func50 (by kernel_rfl) rfl #[.int .i64 (wrap64 (t205 + 1))] rfl (by (try simp only [List.map_toArray, List.map_cons, List.map_nil]); first | done | rfl | (simp only [List.length_drop, List.length_take]; rfl)) ?_; (with_reducible refine (civil_before.calls (wrap64 (t205 + 1)) t220 _ A15.out).mono ?_); rintro e w' ⟨rfl, ⟨nd, rfl⟩⟩; refine ⟨_, rfl, ?_⟩) | ((with_reducible refine gate_callee (f := 50) rfl ?_); refine goesL_ (some 45) rfl rfl Tryd.func50 (by kernel_rfl) rfl #[.int .i64 1970] rfl (by (try simp only [List.map_toArray, List.map_cons, List.map_nil]); first | done | rfl | (simp only [List.length_drop, List.length_take]; rfl)) ?_; (with_reducible refine (civil_before.calls 1970 t221 _ A16.out).mono ?_); rintro e w' ⟨rfl, ⟨nd, rfl⟩⟩; refine ⟨_, rfl, ?_⟩))
        go_ret3
        exact ⟨by first | rfl | (simp [errW_none, errW_some] <;> rfl) | (simp [*, errW_none, errW_some] <;> rfl), by repeat (first | (with_reducible first | exact HB.out | apply below_alloc | apply pw_below_drewN | apply below_drew1 | refine below_set ?_ GE213.out) | exact HB.out)⟩
      · rw [if_neg c14] at H
        have c14b0 : decide ((wrap64 (t218 - t219)) ≤ (wrap64 ((wrap64 ((wrap64 (Int.tdiv a0 86400)) + 4)) - t211))) = false := decide_eq_false c14
        clear c14
        replace H := Option.bind_eq_some_iff.mp H
        obtain ⟨t222, A200, H⟩ := H
        replace H : ((civil_before.f 1970).bind fun t223 => (some (t205, wrap64 ((wrap64 (Int.tdiv (wrap64 ((wrap64 ((wrap64 ((wrap64 ((wrap64 (Int.tdiv a0 86400)) + 4)) - t211)) - t222)) + t223)) 7)) + 1), 0))) = some (r1, r2, r3) := H
        have A20 := Aside0.mk A200
        clear A200
        replace H := Option.bind_eq_some_iff.mp H
        obtain ⟨t223, A210, H⟩ := H
        replace H : (some (t205, wrap64 ((wrap64 (Int.tdiv (wrap64 ((wrap64 ((wrap64 ((wrap64 ((wrap64 (Int.tdiv a0 86400)) + 4)) - t211)) - t222)) + t223)) 7)) + 1), 0)) = some (r1, r2, r3) := H
        have A21 := Aside0.mk A210
        clear A210
        simp only [Option.some.injEq, Prod.mk.injEq] at H
        obtain ⟨rfl, rfl, rfl⟩ := H
        go_enter Tryd.func22, Tryd.ntmps22
        go_wp2_with (first | ((with_reducible refine gate_callee (f := 15) rfl ?_); refine goesL_ (some 9) rfl rfl Tryd.func15 (by kernel_rfl) rfl #[.int .i64 a0] rfl (by (try simp only [List.map_toArray, List.map_cons, List.map_nil]); first | done | rfl | (simp only [List.length_drop, List.length_take]; rfl)) ?_; (with_reducible refine (civil_Of.calls k a0 t205 t206 t207 t208 t209 t210 t211 t212 _ ?side1 A2.out).mono ?_); (case side1 => first | exact HLAID.out | exact Laid.drewN HLAID.out _ | exact Laid.below HLAID.out (by repeat (first | (with_reducible first | exact HB.out | apply below_alloc | apply pw_below_drewN | apply below_drew1) | exact HB.out))); rintro e w22 ⟨rfl, hb⟩; refine ⟨_, rfl, ?_⟩; have n0_ := Aside0.mk (below_step (by repeat (first | (with_reducible first | exact HB.out | apply below_alloc | apply pw_below_drewN | apply below_drew1) | exact HB.out)) hb); clear HB; have HB := n0_; clear n0_; (try clear hb); (try clear hb2); (try clear hk); (try clear hi)) | ((with_reducible refine gate_dst (N := 5) rfl ?_); refine box_event ?hg (N := 5) ?hd (cs := #[.int .i64 0, .int .i64 0, .int .i64 0, .int .i64 0, .int .i64 0, .int .i64 0, .int .i64 0]) (t := 25) ?hr ?_; (case hd => rfl); (case hg => rfl); (case hr => first | (go_simp; done) | (go_simp; rfl)); intro gb213 hg w23 hbox hb; have n0_ := Aside0.mk (below_step (by repeat (first | (with_reducible first | exact HB.out | apply below_alloc | apply pw_below_drewN | apply below_drew1) | exact HB.out)) hb); have n1_ := Aside0.mk (hbox); have n2_ := Aside0.mk ((by rw [hg]; exact (below_size (by repeat (first | (with_reducible first | exact HB.out | apply below_alloc | apply pw_below_drewN | apply below_drew1) | exact HB.out))) : w.heap.size ≤ gb213)); have n3_ := Aside0.mk ((by rw [hg]; exact (below_size (by repeat (first | (with_reducible first | exact HB.out | apply below_alloc | apply pw_below_drewN | apply below_drew1) | exact HB.out))) : w.heap.size ≤ gb213)); clear HB; have HB := n0_; have BK213 := n1_; have GW213 := n2_; have GE213 := n3_; clear n0_ n1_ n2_ n3_; clear hb hbox hg; obtain ⟨hcz24_0, hcz24_1, hcz24_2, hcz24_3, hcz24_4, hcz24_5, hcz24_6, hfz24_0, hfz24_1, hfz24_2, hfz24_3, hfz24_4, hfz24_5, hfz24_6⟩ := blk_all7 (w := w23) BK213.out) | ((with_reducible refine gate_callee (f := 50) rfl ?_); refine goesL_ (some 25) rfl rfl Tryd.func50 (by kernel_rfl) rfl #[.int .i64 t205] rfl (by (try simp only [List.map_toArray, List.map_cons, List.map_nil]); first | done | rfl | (simp only [List.length_drop, List.length_take]; rfl)) ?_; (with_reducible refine (civil_before.calls t205 t214 _ A4.out).mono ?_); rintro e w' ⟨rfl, ⟨nd, rfl⟩⟩; refine ⟨_, rfl, ?_⟩) | ((with_reducible refine gate_callee (f := 50) rfl ?_); refine goesL_ (some 26) rfl rfl Tryd.func50 (by kernel_rfl) rfl #[.int .i64 1970] rfl (by (try simp only [List.map_toArray, List.map_cons, List.map_nil]); first | done | rfl | (simp only [List.length_drop, List.length_take]; rfl)) ?_; (with_reducible refine (civil_before.calls 1970 t215 _ A5.out).mono ?_); rintro e w' ⟨rfl, ⟨nd, rfl⟩⟩; refine ⟨_, rfl, ?_⟩) | ((with_reducible refine gate_callee (f := 50) rfl ?_); refine goesL_ (some 34) rfl rfl Tryd.func50 (by kernel_rfl) rfl #[.int .i64 (wrap64 (t205 + 1))] rfl (by (try simp only [List.map_toArray, List.map_cons, List.map_nil]); first | done | rfl | (simp only [List.length_drop, List.length_take]; rfl)) ?_; (with_reducible refine (civil_before.calls (wrap64 (t205 + 1)) t218 _ A12.out).mono ?_); rintro e w' ⟨rfl, ⟨nd, rfl⟩⟩; refine ⟨_, rfl, ?_⟩) | ((with_reducible refine gate_callee (f := 50) rfl ?_); refine goesL_ (some 35) rfl rfl Tryd.func50 (by kernel_rfl) rfl #[.int .i64 1970] rfl (by (try simp only [List.map_toArray, List.map_cons, List.map_nil]); first | done | rfl | (simp only [List.length_drop, List.length_take]; rfl)) ?_; (with_reducible refine (civil_before.calls 1970 t219 _ A13.out).mono ?_); rintro e w' ⟨rfl, ⟨nd, rfl⟩⟩; refine ⟨_, rfl, ?_⟩) | ((with_reducible refine gate_callee (f := 50) rfl ?_); refine goesL_ (some 43) rfl rfl Tryd.func50 (by kernel_rfl) rfl #[.int .i64 t205] rfl (by (try simp only [List.map_toArray, List.map_cons, List.map_nil]); first | done | rfl | (simp only [List.length_drop, List.length_take]; rfl)) ?_; (with_reducible refine (civil_before.calls t205 t222 _ A20.out).mono ?_); rintro e w' ⟨rfl, ⟨nd, rfl⟩⟩; refine ⟨_, rfl, ?_⟩) | ((with_reducible refine gate_callee (f := 50) rfl ?_); refine goesL_ (some 45) rfl rfl Tryd.func50 (by kernel_rfl) rfl #[.int .i64 1970] rfl (by (try simp only [List.map_toArray, List.map_cons, List.map_nil]); first | done | rfl | (simp only [List.length_drop, List.length_take]; rfl)) ?_; (with_reducible refine (civil_before.calls 1970 t223 _ A21.out).mono ?_); rintro e w' ⟨rfl, ⟨nd, rfl⟩⟩; refine ⟨_, rfl, ?_⟩))
        go_ret3
        exact ⟨by first | rfl | (simp [errW_none, errW_some] <;> rfl) | (simp [*, errW_none, errW_some] <;> rfl), by repeat (first | (with_reducible first | exact HB.out | apply below_alloc | apply pw_below_drewN | apply below_drew1 | refine below_set ?_ GE213.out) | exact HB.out)⟩
  · rw [if_neg c3] at H
    have c3b0 : (t212 == 0) = false := beq_eq_false_iff_ne.mpr c3
    have c3b1 : (t212 != 0) = true := bne_iff_ne.mpr c3
    simp only [Option.some.injEq, Prod.mk.injEq] at H
    obtain ⟨rfl, rfl, rfl⟩ := H
    go_enter Tryd.func22, Tryd.ntmps22
    go_wp2_with (first | ((with_reducible refine gate_callee (f := 15) rfl ?_); refine goesL_ (some 9) rfl rfl Tryd.func15 (by kernel_rfl) rfl #[.int .i64 a0] rfl (by (try simp only [List.map_toArray, List.map_cons, List.map_nil]); first | done | rfl | (simp only [List.length_drop, List.length_take]; rfl)) ?_; (with_reducible refine (civil_Of.calls k a0 t205 t206 t207 t208 t209 t210 t211 t212 _ ?side1 A2.out).mono ?_); (case side1 => first | exact HLAID.out | exact Laid.drewN HLAID.out _ | exact Laid.below HLAID.out (by repeat (first | (with_reducible first | exact HB.out | apply below_alloc | apply pw_below_drewN | apply below_drew1) | exact HB.out))); rintro e w25 ⟨rfl, hb⟩; refine ⟨_, rfl, ?_⟩; have n0_ := Aside0.mk (below_step (by repeat (first | (with_reducible first | exact HB.out | apply below_alloc | apply pw_below_drewN | apply below_drew1) | exact HB.out)) hb); clear HB; have HB := n0_; clear n0_; (try clear hb); (try clear hb2); (try clear hk); (try clear hi)) | ((with_reducible refine gate_dst (N := 5) rfl ?_); refine box_event ?hg (N := 5) ?hd (cs := #[.int .i64 0, .int .i64 0, .int .i64 0, .int .i64 0, .int .i64 0, .int .i64 0, .int .i64 0]) (t := 25) ?hr ?_; (case hd => rfl); (case hg => rfl); (case hr => first | (go_simp; done) | (go_simp; rfl)); intro gb213 hg w26 hbox hb; have n0_ := Aside0.mk (below_step (by repeat (first | (with_reducible first | exact HB.out | apply below_alloc | apply pw_below_drewN | apply below_drew1) | exact HB.out)) hb); have n1_ := Aside0.mk (hbox); have n2_ := Aside0.mk ((by rw [hg]; exact (below_size (by repeat (first | (with_reducible first | exact HB.out | apply below_alloc | apply pw_below_drewN | apply below_drew1) | exact HB.out))) : w.heap.size ≤ gb213)); have n3_ := Aside0.mk ((by rw [hg]; exact (below_size (by repeat (first | (with_reducible first | exact HB.out | apply below_alloc | apply pw_below_drewN | apply below_drew1) | exact HB.out))) : w.heap.size ≤ gb213)); clear HB; have HB := n0_; have BK213 := n1_; have GW213 := n2_; have GE213 := n3_; clear n0_ n1_ n2_ n3_; clear hb hbox hg; obtain ⟨hcz27_0, hcz27_1, hcz27_2, hcz27_3, hcz27_4, hcz27_5, hcz27_6, hfz27_0, hfz27_1, hfz27_2, hfz27_3, hfz27_4, hfz27_5, hfz27_6⟩ := blk_all7 (w := w26) BK213.out))
    go_ret3
    exact ⟨by first | rfl | (simp [errW_none, errW_some] <;> rfl) | (simp [*, errW_none, errW_some] <;> rfl), by repeat (first | (with_reducible first | exact HB.out | apply below_alloc | apply pw_below_drewN | apply below_drew1 | refine below_set ?_ GE213.out) | exact HB.out)⟩

/-! ### garretref21_is: function 54 -/
def garretref21_is.f (a0 : Int) : Option (Bool) := if a0 ≥ 0 then (some (decide (a0 ≤ 1099511627776))) else (some false)
set_option maxHeartbeats 8000000 in
set_option maxRecDepth 100000 in
theorem garretref21_is.calls (a0 : Int) (r : Bool) (w : World) (h : garretref21_is.f a0 = some r) :
    Calls Tryd.prog 54 #[.int .i64 a0] w fun e w' => e = .returned (.bool r) ∧ Drawn0 w w' := by
  have H : (if a0 ≥ 0 then (some (decide (a0 ≤ 1099511627776))) else (some false)) = some r := h
  clear h
  by_cases c2 : a0 ≥ 0
  · rw [if_pos c2] at H
    have c2b0 : decide (0 ≤ a0) = true := decide_eq_true c2
    clear c2
    obtain rfl := Option.some.inj H
    go_enter Tryd.func54, Tryd.ntmps54
    go_wp2
    go_ret
    exact ⟨by first | rfl | (simp; done) | (simp [*]; done) | (simp; exact (by decide : ∀ p q : Bool, (p == q) = (!(p != q))) _ _) | (simp; exact (by decide : ∀ p q : Bool, (!(p != q)) = (p == q)) _ _), by repeat (first | exact Drawn0.refl _ | apply Drawn0.step)⟩
  · rw [if_neg c2] at H
    have c2b0 : decide (0 ≤ a0) = false := decide_eq_false c2
    clear c2
    obtain rfl := Option.some.inj H
    go_enter Tryd.func54, Tryd.ntmps54
    go_wp2
    go_ret
    exact ⟨by first | rfl | (simp; done) | (simp [*]; done) | (simp; exact (by decide : ∀ p q : Bool, (p == q) = (!(p != q))) _ _) | (simp; exact (by decide : ∀ p q : Bool, (!(p != q)) = (p == q)) _ _), by repeat (first | exact Drawn0.refl _ | apply Drawn0.step)⟩

/-! ### garretref21_Leap: function 29 -/
def garretref21_Leap.f (a0 : Int) : Option (Bool) := if (Int.tmod a0 4) = 0 then (if (Int.tmod a0 100) = 0 then (some ((Int.tmod a0 400) == 0)) else (some true)) else (some ((Int.tmod a0 400) == 0))
set_option maxHeartbeats 8000000 in
set_option maxRecDepth 100000 in
theorem garretref21_Leap.calls (a0 : Int) (r : Bool) (w : World) (h : garretref21_Leap.f a0 = some r) :
    Calls Tryd.prog 29 #[.int .i64 a0] w fun e w' => e = .returned (.bool r) ∧ Drawn0 w w' := by
  have H : (if (Int.tmod a0 4) = 0 then (if (Int.tmod a0 100) = 0 then (some ((Int.tmod a0 400) == 0)) else (some true)) else (some ((Int.tmod a0 400) == 0))) = some r := h
  clear h
  by_cases c2 : (Int.tmod a0 4) = 0
  · rw [if_pos c2] at H
    have c2b0 : ((Int.tmod a0 4) == 0) = true := beq_iff_eq.mpr c2
    have c2b1 : ((Int.tmod a0 4) != 0) = false := bne_eq_false_iff_eq.mpr c2
    clear c2
    by_cases c3 : (Int.tmod a0 100) = 0
    · rw [if_pos c3] at H
      have c3b0 : ((Int.tmod a0 100) == 0) = true := beq_iff_eq.mpr c3
      have c3b1 : ((Int.tmod a0 100) != 0) = false := bne_eq_false_iff_eq.mpr c3
      clear c3
      obtain rfl := Option.some.inj H
      go_enter Tryd.func29, Tryd.ntmps29
      go_wp2
      go_ret
      exact ⟨by first | rfl | (simp; done) | (simp [*]; done) | (simp; exact (by decide : ∀ p q : Bool, (p == q) = (!(p != q))) _ _) | (simp; exact (by decide : ∀ p q : Bool, (!(p != q)) = (p == q)) _ _), by repeat (first | exact Drawn0.refl _ | apply Drawn0.step)⟩
    · rw [if_neg c3] at H
      have c3b0 : ((Int.tmod a0 100) == 0) = false := beq_eq_false_iff_ne.mpr c3
      have c3b1 : ((Int.tmod a0 100) != 0) = true := bne_iff_ne.mpr c3
      obtain rfl := Option.some.inj H
      go_enter Tryd.func29, Tryd.ntmps29
      go_wp2
      go_ret
      exact ⟨by first | rfl | (simp; done) | (simp [*]; done) | (simp; exact (by decide : ∀ p q : Bool, (p == q) = (!(p != q))) _ _) | (simp; exact (by decide : ∀ p q : Bool, (!(p != q)) = (p == q)) _ _), by repeat (first | exact Drawn0.refl _ | apply Drawn0.step)⟩
  · rw [if_neg c2] at H
    have c2b0 : ((Int.tmod a0 4) == 0) = false := beq_eq_false_iff_ne.mpr c2
    have c2b1 : ((Int.tmod a0 4) != 0) = true := bne_iff_ne.mpr c2
    obtain rfl := Option.some.inj H
    go_enter Tryd.func29, Tryd.ntmps29
    go_wp2
    go_ret
    exact ⟨by first | rfl | (simp; done) | (simp [*]; done) | (simp; exact (by decide : ∀ p q : Bool, (p == q) = (!(p != q))) _ _) | (simp; exact (by decide : ∀ p q : Bool, (!(p != q)) = (p == q)) _ _), by repeat (first | exact Drawn0.refl _ | apply Drawn0.step)⟩

/-! ### garretref21_year: function 55 -/
def garretref21_year.f (a0 : Int) : Option (Int) := (garretref21_Leap.f a0).bind fun t224 => (if t224 = true then (some 366) else (some 365))
set_option maxHeartbeats 8000000 in
set_option maxRecDepth 100000 in
theorem garretref21_year.calls (a0 : Int) (r : Int) (w : World) (h : garretref21_year.f a0 = some r) :
    Calls Tryd.prog 55 #[.int .i64 a0] w fun e w' => e = .returned (.int .i64 r) ∧ Drawn0 w w' := by
  have H : ((garretref21_Leap.f a0).bind fun t224 => (if t224 = true then (some 366) else (some 365))) = some r := h
  clear h
  replace H := Option.bind_eq_some_iff.mp H
  obtain ⟨t224, A20, H⟩ := H
  replace H : (if t224 = true then (some 366) else (some 365)) = some r := H
  have A2 := Aside0.mk A20
  clear A20
  by_cases c3 : t224 = true
  · subst c3
    have H1 : (some 366) = some r := by rw [if_pos rfl] at H; exact H
    clear H
    have H := H1
    clear H1
    obtain rfl := Option.some.inj H
    go_enter Tryd.func55, Tryd.ntmps55
    go_wp2_with (first | ((with_reducible refine gate_callee (f := 29) rfl ?_); refine goesL_ (some 4) rfl rfl Tryd.func29 (by kernel_rfl) rfl #[.int .i64 a0] rfl (by (try simp only [List.map_toArray, List.map_cons, List.map_nil]); first | done | rfl | (simp only [List.length_drop, List.length_take]; rfl)) ?_; (with_reducible refine (garretref21_Leap.calls a0 true _ A2.out).mono ?_); rintro e w' ⟨rfl, ⟨nd, rfl⟩⟩; refine ⟨_, rfl, ?_⟩))
    go_ret
    exact ⟨by first | rfl | (simp; done) | (simp [*]; done) | (simp; exact (by decide : ∀ p q : Bool, (p == q) = (!(p != q))) _ _) | (simp; exact (by decide : ∀ p q : Bool, (!(p != q)) = (p == q)) _ _), by repeat (first | exact Drawn0.refl _ | apply Drawn0.step)⟩
  · replace c3 := Bool.eq_false_iff.mpr c3
    subst c3
    have H1 : (some 365) = some r := by rw [if_neg (show ¬ (false = true) by decide)] at H; exact H
    clear H
    have H := H1
    clear H1
    obtain rfl := Option.some.inj H
    go_enter Tryd.func55, Tryd.ntmps55
    go_wp2_with (first | ((with_reducible refine gate_callee (f := 29) rfl ?_); refine goesL_ (some 4) rfl rfl Tryd.func29 (by kernel_rfl) rfl #[.int .i64 a0] rfl (by (try simp only [List.map_toArray, List.map_cons, List.map_nil]); first | done | rfl | (simp only [List.length_drop, List.length_take]; rfl)) ?_; (with_reducible refine (garretref21_Leap.calls a0 false _ A2.out).mono ?_); rintro e w' ⟨rfl, ⟨nd, rfl⟩⟩; refine ⟨_, rfl, ?_⟩))
    go_ret
    exact ⟨by first | rfl | (simp; done) | (simp [*]; done) | (simp; exact (by decide : ∀ p q : Bool, (p == q) = (!(p != q))) _ _) | (simp; exact (by decide : ∀ p q : Bool, (!(p != q)) = (p == q)) _ _), by repeat (first | exact Drawn0.refl _ | apply Drawn0.step)⟩

/-! ### garretref21_days: function 56 -/
def garretref21_days.j0 : Nat → Int → Int → Bool → Option (Int)
  | 0, _, _, _ => none
  | k + 1, x0, x5, x6 => if x6 = true then (some 30) else (if x5 = 2 then ((garretref21_Leap.f x0).bind fun t225 => (if t225 = true then (some 29) else (some 28))) else (some 31))
def garretref21_days.f (k : Nat) (a0 : Int) (a1 : Int) : Option (Int) := if a1 = 4 then (garretref21_days.j0 k a0 a1 (a1 == 4)) else (if a1 = 6 then (garretref21_days.j0 k a0 a1 (a1 == 6)) else (if a1 = 9 then (garretref21_days.j0 k a0 a1 (a1 == 9)) else (garretref21_days.j0 k a0 a1 (a1 == 11))))
theorem garretref21_days.mono_l : ∀ k, (∀ y0 y1 y2, LeO (garretref21_days.j0 k y0 y1 y2) (garretref21_days.j0 (k + 1) y0 y1 y2))
  | 0 => fun _ _ _ r h => by simp [garretref21_days.j0] at h
  | k + 1 => by
    have ih0 := garretref21_days.mono_l k
    · intro y0 y1 y2
      unfold garretref21_days.j0
      repeat' first
      | (with_reducible exact ih0 _ _ _)
      | (with_reducible exact LeO.refl _)
      | (with_reducible exact LeO.none _)
      | (with_reducible refine LeO.ite ?_ ?_)
      | (with_reducible refine LeO.bind ?_ (fun _ => ?_))
      | exact ih0 _ _ _
      | exact LeO.none _
      | refine LeO.ite ?_ ?_
      | refine LeO.bind ?_ (fun _ => ?_)
theorem garretref21_days.mono : ∀ a0 a1 k, LeO (garretref21_days.f k a0 a1) (garretref21_days.f (k + 1) a0 a1) := by
  intro a0 a1 k
  have ih0 := garretref21_days.mono_l k
  unfold garretref21_days.f
  repeat' first
      | (with_reducible exact ih0 _ _ _)
      | (with_reducible exact LeO.refl _)
      | (with_reducible exact LeO.none _)
      | (with_reducible refine LeO.ite ?_ ?_)
      | (with_reducible refine LeO.bind ?_ (fun _ => ?_))
      | exact ih0 _ _ _
      | exact LeO.none _
      | refine LeO.ite ?_ ?_
      | refine LeO.bind ?_ (fun _ => ?_)
set_option maxHeartbeats 8000000 in
set_option maxRecDepth 100000 in
theorem garretref21_days.calls (k : Nat) (a0 : Int) (a1 : Int) (r : Int) (w : World) (h : garretref21_days.f k a0 a1 = some r) :
    Calls Tryd.prog 56 #[.int .i64 a0, .int .i64 a1] w fun e w' => e = .returned (.int .i64 r) ∧ Drawn0 w w' := by
  have H : (if a1 = 4 then (garretref21_days.j0 k a0 a1 (a1 == 4)) else (if a1 = 6 then (garretref21_days.j0 k a0 a1 (a1 == 6)) else (if a1 = 9 then (garretref21_days.j0 k a0 a1 (a1 == 9)) else (garretref21_days.j0 k a0 a1 (a1 == 11))))) = some r := h
  clear h
  have HC3 := Aside0.mk H
  clear H
  go_enter Tryd.func56, Tryd.ntmps56
  go_upto_if 6 with (fail)
  go_cut [6] (fun v6 wc => ∃ (kq : Nat) (x6_2 : Bool), v6 = .bool x6_2 ∧ Aside0 (garretref21_days.j0 kq a0 a1 x6_2 = some r) ∧ Aside0 (kq ≤ k) ∧ Drawn0 w wc)
  case first =>
    have H := HC3.out
    clear HC3
    by_cases c4 : a1 = 4
    · rw [if_pos c4] at H
      have c4b0 : (a1 == 4) = true := beq_iff_eq.mpr c4
      have c4b1 : (a1 != 4) = false := bne_eq_false_iff_eq.mpr c4
      clear c4
      (first | rw [c4b0] | (simp only [i64_w, i32_w]; rw [c4b0]) | skip)
      have H' := Aside0.mk H
      clear H
      go_wp2
      go_meet
      case rel => exact ⟨_, ((a1 == 4)), (by first | rfl | (simp; done) | (simp [*]; done) | (simp; exact (by decide : ∀ p q : Bool, (p == q) = (!(p != q))) _ _) | (simp; exact (by decide : ∀ p q : Bool, (!(p != q)) = (p == q)) _ _)), H', ⟨by first | omega | exact Nat.le_refl _⟩, by repeat (first | exact Drawn0.refl _ | apply Drawn0.step)⟩
    · rw [if_neg c4] at H
      have c4b0 : (a1 == 4) = false := beq_eq_false_iff_ne.mpr c4
      have c4b1 : (a1 != 4) = true := bne_iff_ne.mpr c4
      (first | rw [c4b0] | (simp only [i64_w, i32_w]; rw [c4b0]) | skip)
      by_cases c5 : a1 = 6
      · rw [if_pos c5] at H
        have c5b0 : (a1 == 6) = true := beq_iff_eq.mpr c5
        have c5b1 : (a1 != 6) = false := bne_eq_false_iff_eq.mpr c5
        clear c5
        have H' := Aside0.mk H
        clear H
        go_wp2
        go_meet
        case rel => exact ⟨_, ((a1 == 6)), (by first | rfl | (simp; done) | (simp [*]; done) | (simp; exact (by decide : ∀ p q : Bool, (p == q) = (!(p != q))) _ _) | (simp; exact (by decide : ∀ p q : Bool, (!(p != q)) = (p == q)) _ _)), H', ⟨by first | omega | exact Nat.le_refl _⟩, by repeat (first | exact Drawn0.refl _ | apply Drawn0.step)⟩
      · rw [if_neg c5] at H
        have c5b0 : (a1 == 6) = false := beq_eq_false_iff_ne.mpr c5
        have c5b1 : (a1 != 6) = true := bne_iff_ne.mpr c5
        by_cases c6 : a1 = 9
        · rw [if_pos c6] at H
          have c6b0 : (a1 == 9) = true := beq_iff_eq.mpr c6
          have c6b1 : (a1 != 9) = false := bne_eq_false_iff_eq.mpr c6
          clear c6
          have H' := Aside0.mk H
          clear H
          go_wp2
          go_meet
          case rel => exact ⟨_, ((a1 == 9)), (by first | rfl | (simp; done) | (simp [*]; done) | (simp; exact (by decide : ∀ p q : Bool, (p == q) = (!(p != q))) _ _) | (simp; exact (by decide : ∀ p q : Bool, (!(p != q)) = (p == q)) _ _)), H', ⟨by first | omega | exact Nat.le_refl _⟩, by repeat (first | exact Drawn0.refl _ | apply Drawn0.step)⟩
        · rw [if_neg c6] at H
          have c6b0 : (a1 == 9) = false := beq_eq_false_iff_ne.mpr c6
          have c6b1 : (a1 != 9) = true := bne_iff_ne.mpr c6
          have H' := Aside0.mk H
          clear H
          go_wp2
          go_meet
          case rel => exact ⟨_, ((a1 == 11)), (by first | rfl | (simp; done) | (simp [*]; done) | (simp; exact (by decide : ∀ p q : Bool, (p == q) = (!(p != q))) _ _) | (simp; exact (by decide : ∀ p q : Bool, (!(p != q)) = (p == q)) _ _)), H', ⟨by first | omega | exact Nat.le_refl _⟩, by repeat (first | exact Drawn0.refl _ | apply Drawn0.step)⟩
  case rest =>
    clear HC3
    try clear p2
    try clear c4
    try clear c4b0
    try clear c4b1
    try clear c5
    try clear c5b0
    try clear c5b1
    try clear c6
    try clear c6b0
    try clear c6b1
    obtain ⟨kq, x6_2, rfl, HA, HJ2, ⟨mc2, rfl⟩⟩ := hcut
    cases kq with
    | zero => exact absurd HA.out (by simp [garretref21_days.j0])
    | succ kj2 =>
      have H := HA.out
      clear HA
      simp only [garretref21_days.j0] at H
      by_cases c7 : x6_2 = true
      · subst c7
        have H1 : (some 30) = some r := by rw [if_pos rfl] at H; exact H
        clear H
        have H := H1
        clear H1
        obtain rfl := Option.some.inj H
        go_wp2
        go_ret
        exact ⟨by first | rfl | (simp; done) | (simp [*]; done) | (simp; exact (by decide : ∀ p q : Bool, (p == q) = (!(p != q))) _ _) | (simp; exact (by decide : ∀ p q : Bool, (!(p != q)) = (p == q)) _ _), by repeat (first | exact Drawn0.refl _ | apply Drawn0.step)⟩
      · replace c7 := Bool.eq_false_iff.mpr c7
        subst c7
        have H1 : (if a1 = 2 then ((garretref21_Leap.f a0).bind fun t225 => (if t225 = true then (some 29) else (some 28))) else (some 31)) = some r := by rw [if_neg (show ¬ (false = true) by decide)] at H; exact H
        clear H
        have H := H1
        clear H1
        by_cases c8 : a1 = 2
        · rw [if_pos c8] at H
          have c8b0 : (a1 == 2) = true := beq_iff_eq.mpr c8
          have c8b1 : (a1 != 2) = false := bne_eq_false_iff_eq.mpr c8
          clear c8
          replace H := Option.bind_eq_some_iff.mp H
          obtain ⟨t225, A90, H⟩ := H
          replace H : (if t225 = true then (some 29) else (some 28)) = some r := H
          have A9 := Aside0.mk A90
          clear A90
          by_cases c10 : t225 = true
          · subst c10
            have H1 : (some 29) = some r := by rw [if_pos rfl] at H; exact H
            clear H
            have H := H1
            clear H1
            obtain rfl := Option.some.inj H
            go_wp2_with (first | ((with_reducible refine gate_callee (f := 29) rfl ?_); refine goesL_ (some 14) rfl rfl Tryd.func29 (by kernel_rfl) rfl #[.int .i64 a0] rfl (by (try simp only [List.map_toArray, List.map_cons, List.map_nil]); first | done | rfl | (simp only [List.length_drop, List.length_take]; rfl)) ?_; (with_reducible refine (garretref21_Leap.calls a0 true _ A9.out).mono ?_); rintro e w' ⟨rfl, ⟨nd, rfl⟩⟩; refine ⟨_, rfl, ?_⟩))
            go_ret
            exact ⟨by first | rfl | (simp; done) | (simp [*]; done) | (simp; exact (by decide : ∀ p q : Bool, (p == q) = (!(p != q))) _ _) | (simp; exact (by decide : ∀ p q : Bool, (!(p != q)) = (p == q)) _ _), by repeat (first | exact Drawn0.refl _ | apply Drawn0.step)⟩
          · replace c10 := Bool.eq_false_iff.mpr c10
            subst c10
            have H1 : (some 28) = some r := by rw [if_neg (show ¬ (false = true) by decide)] at H; exact H
            clear H
            have H := H1
            clear H1
            obtain rfl := Option.some.inj H
            go_wp2_with (first | ((with_reducible refine gate_callee (f := 29) rfl ?_); refine goesL_ (some 14) rfl rfl Tryd.func29 (by kernel_rfl) rfl #[.int .i64 a0] rfl (by (try simp only [List.map_toArray, List.map_cons, List.map_nil]); first | done | rfl | (simp only [List.length_drop, List.length_take]; rfl)) ?_; (with_reducible refine (garretref21_Leap.calls a0 false _ A9.out).mono ?_); rintro e w' ⟨rfl, ⟨nd, rfl⟩⟩; refine ⟨_, rfl, ?_⟩))
            go_ret
            exact ⟨by first | rfl | (simp; done) | (simp [*]; done) | (simp; exact (by decide : ∀ p q : Bool, (p == q) = (!(p != q))) _ _) | (simp; exact (by decide : ∀ p q : Bool, (!(p != q)) = (p == q)) _ _), by repeat (first | exact Drawn0.refl _ | apply Drawn0.step)⟩
        · rw [if_neg c8] at H
          have c8b0 : (a1 == 2) = false := beq_eq_false_iff_ne.mpr c8
          have c8b1 : (a1 != 2) = true := bne_iff_ne.mpr c8
          obtain rfl := Option.some.inj H
          go_wp2
          go_ret
          exact ⟨by first | rfl | (simp; done) | (simp [*]; done) | (simp; exact (by decide : ∀ p q : Bool, (p == q) = (!(p != q))) _ _) | (simp; exact (by decide : ∀ p q : Bool, (!(p != q)) = (p == q)) _ _), by repeat (first | exact Drawn0.refl _ | apply Drawn0.step)⟩

end Go.Proofs.YtcmajhdgaeploaaDoor.QCiv
