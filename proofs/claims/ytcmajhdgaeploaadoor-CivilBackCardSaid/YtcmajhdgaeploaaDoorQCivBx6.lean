-- Written for this claim by a program of this session.
import Derived.Test.YtcmajhdgaeploaaDoorYStore
import Derived.Test.YtcmajhdgaeploaaDoorWGuard
import Derived.Test.YtcmajhdgaeploaaDoorQCivBx0
import Derived.Test.YtcmajhdgaeploaaDoorQCivBx2
import Derived.Test.YtcmajhdgaeploaaDoorQCivBx3
import Derived.Test.YtcmajhdgaeploaaDoorQCivBx4
import Derived.Test.YtcmajhdgaeploaaDoorQCivBx5
namespace Go.Proofs.YtcmajhdgaeploaaDoor.QCivB
open Go.RowKit Go.Proofs.YtcmajhdgaeploaaDoorW.PrintWords Go.Proofs.YtcmajhdgaeploaaDoorW.PrintLast Go.Proofs.YtcmajhdgaeploaaDoorW.PrintMore
attribute [local go_sem] max2_int min2_int max_two min_two max_three min_three max_four min_four   -- for this text's walks alone
set_option linter.unusedVariables false
set_option linter.unusedSimpArgs false

/-! ### garretlaw21_CivilBack: function 12 -/
def garretlaw21_CivilBack.f (k : Nat) (a0 : Int) : Option (Bool) := (garretlaw21_works.f k).bind fun t181 => (if t181 = true then ((garretbook_Among.f a0 1099511627777).bind fun t182 => ((civil_Of.f k t182).bind fun bt183 => ((civil_Unix.f k bt183.1 bt183.2.1 bt183.2.2.1 bt183.2.2.2.1 bt183.2.2.2.2.1 bt183.2.2.2.2.2.1 bt183.2.2.2.2.2.2.1).bind fun bt192 => ((civil_Text.f k t182).bind fun bt194 => ((civil_Parse.f k bt194.1).bind fun bt196 => (if bt183.2.2.2.2.2.2.2 = 0 then (if bt192.2 = 0 then (if bt194.2 = 0 then (if bt196.2 = 0 then (if bt192.1 = t182 then (some (bt196.1 == t182)) else (none)) else (none)) else (none)) else (none)) else (none))))))) else (none))
theorem garretlaw21_CivilBack.mono : ∀ a0 k, LeO (garretlaw21_CivilBack.f k a0) (garretlaw21_CivilBack.f (k + 1) a0) := by
  intro a0 k
  unfold garretlaw21_CivilBack.f
  repeat' first
      | (with_reducible exact civil_Of.mono _ _)
      | (with_reducible exact civil_Parse.mono _ _)
      | (with_reducible exact civil_Text.mono _ _)
      | (with_reducible exact civil_Unix.mono _ _ _ _ _ _ _ _)
      | (with_reducible exact garretlaw21_works.mono _)
      | (with_reducible exact LeO.refl _)
      | (with_reducible exact LeO.none _)
      | (with_reducible refine LeO.ite ?_ ?_)
      | (with_reducible refine LeO.bind ?_ (fun _ => ?_))
      | exact civil_Of.mono _ _
      | exact civil_Parse.mono _ _
      | exact civil_Text.mono _ _
      | exact civil_Unix.mono _ _ _ _ _ _ _ _
      | exact garretlaw21_works.mono _
      | exact LeO.none _
      | refine LeO.ite ?_ ?_
      | refine LeO.bind ?_ (fun _ => ?_)
set_option maxHeartbeats 8000000 in
set_option maxRecDepth 100000 in
theorem garretlaw21_CivilBack.calls (k : Nat) (a0 : Int) (r : Bool) (w : World) (hL : Laid w) (h : garretlaw21_CivilBack.f k a0 = some r) :
    Calls Tryd.prog 12 #[.int .i64 a0] w fun e w' => e = .returned (.bool r) ∧ Below w.heap.size w w' := by
  have hu25 := Tryd.underlying25
  have HLAID := Aside0.mk hL
  clear hL
  have HB := Aside0.mk (Below.refl w.heap.size w)
  have H : ((garretlaw21_works.f k).bind fun t181 => (if t181 = true then ((garretbook_Among.f a0 1099511627777).bind fun t182 => ((civil_Of.f k t182).bind fun bt183 => ((civil_Unix.f k bt183.1 bt183.2.1 bt183.2.2.1 bt183.2.2.2.1 bt183.2.2.2.2.1 bt183.2.2.2.2.2.1 bt183.2.2.2.2.2.2.1).bind fun bt192 => ((civil_Text.f k t182).bind fun bt194 => ((civil_Parse.f k bt194.1).bind fun bt196 => (if bt183.2.2.2.2.2.2.2 = 0 then (if bt192.2 = 0 then (if bt194.2 = 0 then (if bt196.2 = 0 then (if bt192.1 = t182 then (some (bt196.1 == t182)) else (none)) else (none)) else (none)) else (none)) else (none))))))) else (none))) = some r := h
  clear h
  replace H := Option.bind_eq_some_iff.mp H
  obtain ⟨t181, A20, H⟩ := H
  replace H : (if t181 = true then ((garretbook_Among.f a0 1099511627777).bind fun t182 => ((civil_Of.f k t182).bind fun bt183 => ((civil_Unix.f k bt183.1 bt183.2.1 bt183.2.2.1 bt183.2.2.2.1 bt183.2.2.2.2.1 bt183.2.2.2.2.2.1 bt183.2.2.2.2.2.2.1).bind fun bt192 => ((civil_Text.f k t182).bind fun bt194 => ((civil_Parse.f k bt194.1).bind fun bt196 => (if bt183.2.2.2.2.2.2.2 = 0 then (if bt192.2 = 0 then (if bt194.2 = 0 then (if bt196.2 = 0 then (if bt192.1 = t182 then (some (bt196.1 == t182)) else (none)) else (none)) else (none)) else (none)) else (none))))))) else (none)) = some r := H
  have A2 := Aside0.mk A20
  clear A20
  by_cases c3 : t181 = true
  · subst c3
    have H1 : ((garretbook_Among.f a0 1099511627777).bind fun t182 => ((civil_Of.f k t182).bind fun bt183 => ((civil_Unix.f k bt183.1 bt183.2.1 bt183.2.2.1 bt183.2.2.2.1 bt183.2.2.2.2.1 bt183.2.2.2.2.2.1 bt183.2.2.2.2.2.2.1).bind fun bt192 => ((civil_Text.f k t182).bind fun bt194 => ((civil_Parse.f k bt194.1).bind fun bt196 => (if bt183.2.2.2.2.2.2.2 = 0 then (if bt192.2 = 0 then (if bt194.2 = 0 then (if bt196.2 = 0 then (if bt192.1 = t182 then (some (bt196.1 == t182)) else (none)) else (none)) else (none)) else (none)) else (none))))))) = some r := by rw [if_pos rfl] at H; exact H
    clear H
    have H := H1
    clear H1
    replace H := Option.bind_eq_some_iff.mp H
    obtain ⟨t182, A40, H⟩ := H
    replace H : ((civil_Of.f k t182).bind fun bt183 => ((civil_Unix.f k bt183.1 bt183.2.1 bt183.2.2.1 bt183.2.2.2.1 bt183.2.2.2.2.1 bt183.2.2.2.2.2.1 bt183.2.2.2.2.2.2.1).bind fun bt192 => ((civil_Text.f k t182).bind fun bt194 => ((civil_Parse.f k bt194.1).bind fun bt196 => (if bt183.2.2.2.2.2.2.2 = 0 then (if bt192.2 = 0 then (if bt194.2 = 0 then (if bt196.2 = 0 then (if bt192.1 = t182 then (some (bt196.1 == t182)) else (none)) else (none)) else (none)) else (none)) else (none)))))) = some r := H
    have A4 := Aside0.mk A40
    clear A40
    replace H := Option.bind_eq_some_iff.mp H
    obtain ⟨⟨t183, t184, t185, t186, t187, t188, t189, t190⟩, A50, H⟩ := H
    replace H : ((civil_Unix.f k t183 t184 t185 t186 t187 t188 t189).bind fun bt192 => ((civil_Text.f k t182).bind fun bt194 => ((civil_Parse.f k bt194.1).bind fun bt196 => (if t190 = 0 then (if bt192.2 = 0 then (if bt194.2 = 0 then (if bt196.2 = 0 then (if bt192.1 = t182 then (some (bt196.1 == t182)) else (none)) else (none)) else (none)) else (none)) else (none))))) = some r := H
    have A5 := Aside0.mk A50
    clear A50
    replace H := Option.bind_eq_some_iff.mp H
    obtain ⟨⟨t192, t193⟩, A60, H⟩ := H
    replace H : ((civil_Text.f k t182).bind fun bt194 => ((civil_Parse.f k bt194.1).bind fun bt196 => (if t190 = 0 then (if t193 = 0 then (if bt194.2 = 0 then (if bt196.2 = 0 then (if t192 = t182 then (some (bt196.1 == t182)) else (none)) else (none)) else (none)) else (none)) else (none)))) = some r := H
    have A6 := Aside0.mk A60
    clear A60
    replace H := Option.bind_eq_some_iff.mp H
    obtain ⟨⟨t194, t195⟩, A70, H⟩ := H
    replace H : ((civil_Parse.f k t194).bind fun bt196 => (if t190 = 0 then (if t193 = 0 then (if t195 = 0 then (if bt196.2 = 0 then (if t192 = t182 then (some (bt196.1 == t182)) else (none)) else (none)) else (none)) else (none)) else (none))) = some r := H
    have A7 := Aside0.mk A70
    clear A70
    replace H := Option.bind_eq_some_iff.mp H
    obtain ⟨⟨t196, t197⟩, A80, H⟩ := H
    replace H : (if t190 = 0 then (if t193 = 0 then (if t195 = 0 then (if t197 = 0 then (if t192 = t182 then (some (t196 == t182)) else (none)) else (none)) else (none)) else (none)) else (none)) = some r := H
    have A8 := Aside0.mk A80
    clear A80
    by_cases c9 : t190 = 0
    · rw [if_pos c9] at H
      have c9b0 : (t190 == 0) = true := beq_iff_eq.mpr c9
      have c9b1 : (t190 != 0) = false := bne_eq_false_iff_eq.mpr c9
      clear c9
      by_cases c10 : t193 = 0
      · rw [if_pos c10] at H
        have c10b0 : (t193 == 0) = true := beq_iff_eq.mpr c10
        have c10b1 : (t193 != 0) = false := bne_eq_false_iff_eq.mpr c10
        clear c10
        by_cases c11 : t195 = 0
        · rw [if_pos c11] at H
          have c11b0 : (t195 == 0) = true := beq_iff_eq.mpr c11
          have c11b1 : (t195 != 0) = false := bne_eq_false_iff_eq.mpr c11
          clear c11
          by_cases c12 : t197 = 0
          · rw [if_pos c12] at H
            have c12b0 : (t197 == 0) = true := beq_iff_eq.mpr c12
            have c12b1 : (t197 != 0) = false := bne_eq_false_iff_eq.mpr c12
            clear c12
            by_cases c13 : t192 = t182
            · rw [if_pos c13] at H
              have c13b0 : (t192 == t182) = true := beq_iff_eq.mpr c13
              have c13b1 : (t192 != t182) = false := bne_eq_false_iff_eq.mpr c13
              clear c13
              obtain rfl := Option.some.inj H
              go_enter Tryd.func12, Tryd.ntmps12
              go_wp2_with (first | ((with_reducible refine gate_store (t := 25) (p := 3) rfl ?_); refine store_all rfl 25 (.tmp 3) _ rfl gb191 _ rfl rfl 25 _ (by (with_reducible repeat (first | exact BK191.out | refine blk_drewN ?_ _ | refine blk_drew ?_ | refine blk_alloc ?_ _ | refine blk_put ?_ _ _ rfl))) (by kernel_rfl) (by rfl) (by simp [Value.oneCell']) ?_; intro ws_ hrow_ hgr_ hbl_; (try (have q_ := Aside0.mk (hbl_ w w.heap.size GE191.out (by repeat (first | (with_reducible first | exact HB.out | apply below_alloc | apply pw_below_drewN | apply below_drew1 | refine below_set ?_ GE191.out) | exact HB.out))); clear HB; have HB := q_; clear q_)); clear BK191; have BK191 := Aside0.mk hrow_; clear hrow_ hgr_ hbl_; (try (have qb_ := BK191.out; clear qb_; obtain ⟨hcs191_0, hcs191_1, hcs191_2, hcs191_3, hcs191_4, hcs191_5, hcs191_6, hfs191_0, hfs191_1, hfs191_2, hfs191_3, hfs191_4, hfs191_5, hfs191_6⟩ := blk_all7 BK191.out)); (try simp only [Act.put, List.setIfInBounds_toArray, List.set_cons_zero, List.set_cons_succ])) | ((with_reducible refine gate_load (t := 25) (p := 3) rfl ?_); (try (refine gate_guard (by rfl) ?_; dsimp only)); refine wpList_load_row rfl 25 (Operand.tmp 3) rfl gb191 rfl 25 ?cs_ (0, 0) _ ?hrow_ Tryd.underlying25 rfl ?hsz_ ?_; (case hrow_ => (with_reducible repeat (first | exact BK191.out | refine blk_drewN ?_ _ | refine blk_drew ?_ | refine blk_alloc ?_ _ | refine blk_put ?_ _ _ rfl))); (case hsz_ => kernel_rfl); (try simp only [Act.put, List.setIfInBounds_toArray, List.set_cons_zero, List.set_cons_succ])) | ((with_reducible refine gate_callee (f := 13) rfl ?_); refine goesL_ (some 11) rfl rfl Tryd.func13 (by kernel_rfl) rfl #[] rfl (by (try simp only [List.map_toArray, List.map_cons, List.map_nil]); first | done | rfl | (simp only [List.length_drop, List.length_take]; rfl)) ?_; (with_reducible refine (garretlaw21_works.calls k  true _ ?side1 A2.out).mono ?_); (case side1 => first | exact HLAID.out | exact Laid.drewN HLAID.out _ | exact Laid.below HLAID.out (by repeat (first | (with_reducible first | exact HB.out | apply below_alloc | apply pw_below_drewN | apply below_drew1) | exact HB.out))); rintro e w14 ⟨rfl, hb⟩; refine ⟨_, rfl, ?_⟩; have n0_ := Aside0.mk (below_step (by repeat (first | (with_reducible first | exact HB.out | apply below_alloc | apply pw_below_drewN | apply below_drew1) | exact HB.out)) hb); clear HB; have HB := n0_; clear n0_; (try clear hb); (try clear hb2); (try clear hk); (try clear hi)) | ((with_reducible refine gate_callee (f := 14) rfl ?_); refine goesL_ (some 14) rfl rfl Tryd.func14 (by kernel_rfl) rfl #[.int .i64 a0, .int .i64 1099511627777] rfl (by (try simp only [List.map_toArray, List.map_cons, List.map_nil]); first | done | rfl | (simp only [List.length_drop, List.length_take]; rfl)) ?_; (with_reducible refine (garretbook_Among.calls a0 1099511627777 t182 _ A4.out).mono ?_); rintro e w' ⟨rfl, ⟨nd, rfl⟩⟩; refine ⟨_, rfl, ?_⟩; (try (rw [drewN_self w14]; generalize hq_ : World.drewN w14 _ = w14; have n0_ : Aside0 (Below w.heap.size w w14) := ⟨by rw [← hq_]; exact (by repeat (first | (with_reducible first | exact HB.out | apply below_alloc | apply pw_below_drewN | apply below_drew1) | exact HB.out))⟩; clear HB hq_; have HB := n0_; clear n0_))) | ((with_reducible refine gate_callee (f := 15) rfl ?_); refine goesL_ (some 17) rfl rfl Tryd.func15 (by kernel_rfl) rfl #[.int .i64 t182] rfl (by (try simp only [List.map_toArray, List.map_cons, List.map_nil]); first | done | rfl | (simp only [List.length_drop, List.length_take]; rfl)) ?_; (with_reducible refine (civil_Of.calls k t182 t183 t184 t185 t186 t187 t188 t189 t190 _ ?side1 A5.out).mono ?_); (case side1 => first | exact HLAID.out | exact Laid.drewN HLAID.out _ | exact Laid.below HLAID.out (by repeat (first | (with_reducible first | exact HB.out | apply below_alloc | apply pw_below_drewN | apply below_drew1) | exact HB.out))); rintro e w15 ⟨rfl, hb⟩; refine ⟨_, rfl, ?_⟩; have n0_ := Aside0.mk (below_step (by repeat (first | (with_reducible first | exact HB.out | apply below_alloc | apply pw_below_drewN | apply below_drew1) | exact HB.out)) hb); clear HB; have HB := n0_; clear n0_; (try clear hb); (try clear hb2); (try clear hk); (try clear hi)) | ((with_reducible refine gate_dst (N := 3) rfl ?_); refine box_event ?hg (N := 3) ?hd (cs := #[.int .i64 0, .int .i64 0, .int .i64 0, .int .i64 0, .int .i64 0, .int .i64 0, .int .i64 0]) (t := 25) ?hr ?_; (case hd => rfl); (case hg => rfl); (case hr => first | (go_simp; done) | (go_simp; rfl)); intro gb191 hg w16 hbox hb; have n0_ := Aside0.mk (below_step (by repeat (first | (with_reducible first | exact HB.out | apply below_alloc | apply pw_below_drewN | apply below_drew1) | exact HB.out)) hb); have n1_ := Aside0.mk (hbox); have n2_ := Aside0.mk ((by rw [hg]; exact (below_size (by repeat (first | (with_reducible first | exact HB.out | apply below_alloc | apply pw_below_drewN | apply below_drew1) | exact HB.out))) : w.heap.size ≤ gb191)); have n3_ := Aside0.mk ((by rw [hg]; exact (below_size (by repeat (first | (with_reducible first | exact HB.out | apply below_alloc | apply pw_below_drewN | apply below_drew1) | exact HB.out))) : w.heap.size ≤ gb191)); clear HB; have HB := n0_; have BK191 := n1_; have GW191 := n2_; have GE191 := n3_; clear n0_ n1_ n2_ n3_; clear hb hbox hg; obtain ⟨hcz17_0, hcz17_1, hcz17_2, hcz17_3, hcz17_4, hcz17_5, hcz17_6, hfz17_0, hfz17_1, hfz17_2, hfz17_3, hfz17_4, hfz17_5, hfz17_6⟩ := blk_all7 BK191.out) | ((with_reducible refine gate_callee (f := 18) rfl ?_); refine goesL_ (some 22) rfl rfl Tryd.func18 (by kernel_rfl) rfl #[.agg #[.int .i64 t183, .int .i64 t184, .int .i64 t185, .int .i64 t186, .int .i64 t187, .int .i64 t188, .int .i64 t189]] rfl (by (try simp only [List.map_toArray, List.map_cons, List.map_nil]); first | done | rfl | (simp only [List.length_drop, List.length_take]; rfl)) ?_; (with_reducible refine (civil_Unix.calls k t183 t184 t185 t186 t187 t188 t189 t192 t193 _ ?side1 A6.out).mono ?_); (case side1 => first | exact HLAID.out | exact Laid.drewN HLAID.out _ | exact Laid.below HLAID.out (by repeat (first | (with_reducible first | exact HB.out | apply below_alloc | apply pw_below_drewN | apply below_drew1 | refine below_set ?_ GE191.out) | exact HB.out))); rintro e w18 ⟨rfl, hb⟩; refine ⟨_, rfl, ?_⟩; have n0_ := Aside0.mk (blk_below (g := gb191) (o := .cells #[.int .i64 t183, .int .i64 t184, .int .i64 t185, .int .i64 t186, .int .i64 t187, .int .i64 t188, .int .i64 t189] 25 (0, 0)) (by (with_reducible repeat (first | refine blk_drewN ?_ _ | refine blk_drew ?_ | refine blk_alloc ?_ _)); exact BK191.out) hb); have n1_ := Aside0.mk (below_step (by repeat (first | (with_reducible first | exact HB.out | apply below_alloc | apply pw_below_drewN | apply below_drew1 | refine below_set ?_ GE191.out) | exact HB.out)) hb); clear BK191; clear HB; have BK191 := n0_; have HB := n1_; clear n0_ n1_; (try clear hb); (try clear hb2); (try clear hk); (try clear hi)) | ((with_reducible refine gate_callee (f := 47) rfl ?_); refine goesL_ (some 27) rfl rfl Tryd.func47 (by kernel_rfl) rfl #[.int .i64 t182] rfl (by (try simp only [List.map_toArray, List.map_cons, List.map_nil]); first | done | rfl | (simp only [List.length_drop, List.length_take]; rfl)) ?_; (with_reducible refine (civil_Text.calls k t182 t194 t195 _ ?side1 A7.out).mono ?_); (case side1 => first | exact HLAID.out | exact Laid.drewN HLAID.out _ | exact Laid.below HLAID.out (by repeat (first | (with_reducible first | exact HB.out | apply below_alloc | apply pw_below_drewN | apply below_drew1 | refine below_set ?_ GE191.out) | exact HB.out))); rintro e w19 ⟨rfl, hb⟩; refine ⟨_, rfl, ?_⟩; have n0_ := Aside0.mk (blk_below (g := gb191) (o := .cells #[.int .i64 t183, .int .i64 t184, .int .i64 t185, .int .i64 t186, .int .i64 t187, .int .i64 t188, .int .i64 t189] 25 (0, 0)) (by (with_reducible repeat (first | refine blk_drewN ?_ _ | refine blk_drew ?_ | refine blk_alloc ?_ _)); exact BK191.out) hb); have n1_ := Aside0.mk (below_step (by repeat (first | (with_reducible first | exact HB.out | apply below_alloc | apply pw_below_drewN | apply below_drew1 | refine below_set ?_ GE191.out) | exact HB.out)) hb); clear BK191; clear HB; have BK191 := n0_; have HB := n1_; clear n0_ n1_; (try clear hb); (try clear hb2); (try clear hk); (try clear hi)) | ((with_reducible refine gate_callee (f := 48) rfl ?_); refine goesL_ (some 32) rfl rfl Tryd.func48 (by kernel_rfl) rfl #[.string t194] rfl (by (try simp only [List.map_toArray, List.map_cons, List.map_nil]); first | done | rfl | (simp only [List.length_drop, List.length_take]; rfl)) ?_; (with_reducible refine (civil_Parse.calls k t194 t196 t197 _ ?side1 A8.out).mono ?_); (case side1 => first | exact HLAID.out | exact Laid.drewN HLAID.out _ | exact Laid.below HLAID.out (by repeat (first | (with_reducible first | exact HB.out | apply below_alloc | apply pw_below_drewN | apply below_drew1 | refine below_set ?_ GE191.out) | exact HB.out))); rintro e w20 ⟨rfl, hb⟩; refine ⟨_, rfl, ?_⟩; have n0_ := Aside0.mk (blk_below (g := gb191) (o := .cells #[.int .i64 t183, .int .i64 t184, .int .i64 t185, .int .i64 t186, .int .i64 t187, .int .i64 t188, .int .i64 t189] 25 (0, 0)) (by (with_reducible repeat (first | refine blk_drewN ?_ _ | refine blk_drew ?_ | refine blk_alloc ?_ _)); exact BK191.out) hb); have n1_ := Aside0.mk (below_step (by repeat (first | (with_reducible first | exact HB.out | apply below_alloc | apply pw_below_drewN | apply below_drew1 | refine below_set ?_ GE191.out) | exact HB.out)) hb); clear BK191; clear HB; have BK191 := n0_; have HB := n1_; clear n0_ n1_; (try clear hb); (try clear hb2); (try clear hk); (try clear hi)))
              go_ret
              exact ⟨by first | rfl | (simp [errW_none, errW_some] <;> rfl) | (simp [*, errW_none, errW_some] <;> rfl), by repeat (first | (with_reducible first | exact HB.out | apply below_alloc | apply pw_below_drewN | apply below_drew1 | refine below_set ?_ GE191.out) | exact HB.out)⟩
            · rw [if_neg c13] at H
              exact absurd H (by simp)
          · rw [if_neg c12] at H
            exact absurd H (by simp)
        · rw [if_neg c11] at H
          exact absurd H (by simp)
      · rw [if_neg c10] at H
        exact absurd H (by simp)
    · rw [if_neg c9] at H
      exact absurd H (by simp)
  · replace c3 := Bool.eq_false_iff.mpr c3
    subst c3
    have H1 : (none) = some r := by rw [if_neg (show ¬ (false = true) by decide)] at H; exact H
    clear H
    have H := H1
    clear H1
    exact absurd H (by simp)

/-- THE ONE PURE STATEMENT of garretlaw21_CivilBack: yours. -/
def garretlaw21_CivilBack.Pure : Prop := ∀ (a0 : Int), (Lit.int .i64 a0).wf = true → ∃ k, garretlaw21_CivilBack.f k a0 = some true
theorem garretlaw21_CivilBack.walk (P : garretlaw21_CivilBack.Pure) (a0 : Int) (w : World) (w0 : (Lit.int .i64 a0).wf = true) (hL : Laid w) :
    Calls Tryd.prog 12 #[.int .i64 a0] w fun e w' => e = .returned (.bool true) ∧ Below w.heap.size w w' := by
  obtain ⟨k, h⟩ := P a0 w0
  refine (garretlaw21_CivilBack.calls k a0 true w hL h).mono ?_
  rintro e w' ⟨rfl, hd⟩
  exact ⟨rfl, hd⟩

end Go.Proofs.YtcmajhdgaeploaaDoor.QCivB
