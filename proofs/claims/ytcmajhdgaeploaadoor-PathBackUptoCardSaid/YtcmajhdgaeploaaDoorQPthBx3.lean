-- Written for this claim by a program of this session.
import Derived.Test.YtcmajhdgaeploaaDoorQPthBx0
import Derived.Test.YtcmajhdgaeploaaDoorQPthBx1
import Derived.Test.YtcmajhdgaeploaaDoorQPthBx2
namespace Go.Proofs.YtcmajhdgaeploaaDoor.QPthB
open Go.RowKit Go.Proofs.YtcmajhdgaeploaaDoorW.PrintWords Go.Proofs.YtcmajhdgaeploaaDoorW.PrintLast Go.Proofs.YtcmajhdgaeploaaDoorW.PrintMore
attribute [local go_sem] max2_int min2_int max_two min_two max_three min_three max_four min_four   -- for this text's walks alone
set_option linter.unusedVariables false
set_option linter.unusedSimpArgs false

/-! ### garretlaw17_PathBack: function 11 -/
def garretlaw17_PathBack.j0 : Nat → ByteArray → List ByteArray → Int → ByteArray → ByteArray → Int → Bool → Option (Bool)
  | 0, _, _, _, _, _, _, _ => none
  | k + 1, x0, x3, x4, x5, x6, x7, x31 => if x31 = true then (if x4 = 170 then (if x7 = 170 then (if (x3.length : Int) = 0 then (if x5.toList = ([] : List UInt8) then (some (x6.toList == ([] : List UInt8))) else (none)) else (none)) else (none)) else (none)) else ((path_Join.f k x3).bind fun bt172 => ((path_Within.f k x5 x0).bind fun bt174 => (if x5.toList = ([] : List UInt8) then (if bt172.2 = 0 then (if bt172.1.toList = x0.toList then (if bt174.2 = true then (if bt174.1.toList = x6.toList then (if x6.toList = x0.toList then ((path_Less.f k x5 x0).bind fun t176 => (if t176 = true then ((path_Less.f k x0 x5).bind fun t177 => (if t177 = true then (none) else ((path_IsName.f k x6).bind fun t178 => (if t178 = true then (if 0 ≤ (wrap64 ((x3.length : Int) - 1)) then (if (wrap64 ((x3.length : Int) - 1)) < (x3.length : Int) then (some (x6.toList == (rdOf ByteArray.empty x3 (wrap64 ((x3.length : Int) - 1))).toList)) else (none)) else (none)) else (none))))) else (none))) else (none)) else (none)) else (none)) else (none)) else (none)) else (if x5.size + 1 ≤ 9223372036854775807 then (if (x5 ++ (⟨#[47]⟩ : ByteArray)).size + x6.size ≤ 9223372036854775807 then (if bt172.2 = 0 then (if bt172.1.toList = x0.toList then (if bt174.2 = true then (if bt174.1.toList = x6.toList then (if ((x5 ++ (⟨#[47]⟩ : ByteArray)) ++ x6).toList = x0.toList then ((path_Less.f k x5 x0).bind fun t180 => (if t180 = true then ((path_Less.f k x0 x5).bind fun t181 => (if t181 = true then (none) else ((path_IsName.f k x6).bind fun t182 => (if t182 = true then (if 0 ≤ (wrap64 ((x3.length : Int) - 1)) then (if (wrap64 ((x3.length : Int) - 1)) < (x3.length : Int) then (some (x6.toList == (rdOf ByteArray.empty x3 (wrap64 ((x3.length : Int) - 1))).toList)) else (none)) else (none)) else (none))))) else (none))) else (none)) else (none)) else (none)) else (none)) else (none)) else (none)) else (none)))))
def garretlaw17_PathBack.f (k : Nat) (a0 : ByteArray) : Option (Bool) := (garretlaw17_works.f k).bind fun t164 => (if t164 = true then ((path_Split.f k a0).bind fun bt165 => ((path_Parent.f k a0).bind fun bt169 => (if bt165.2 = 0 then (garretlaw17_PathBack.j0 k a0 bt165.1 bt165.2 bt169.1 bt169.2.1 bt169.2.2 (bt169.2.2 != 0)) else (garretlaw17_PathBack.j0 k a0 bt165.1 bt165.2 bt169.1 bt169.2.1 bt169.2.2 true)))) else (none))
theorem garretlaw17_PathBack.mono_l : ∀ k, (∀ y0 y1 y2 y3 y4 y5 y6, LeO (garretlaw17_PathBack.j0 k y0 y1 y2 y3 y4 y5 y6) (garretlaw17_PathBack.j0 (k + 1) y0 y1 y2 y3 y4 y5 y6))
  | 0 => fun _ _ _ _ _ _ _ r h => by simp [garretlaw17_PathBack.j0] at h
  | k + 1 => by
    have ih0 := garretlaw17_PathBack.mono_l k
    · intro y0 y1 y2 y3 y4 y5 y6
      unfold garretlaw17_PathBack.j0
      repeat' first
      | (with_reducible exact ih0 _ _ _ _ _ _ _)
      | (with_reducible exact garretlaw17_works.mono _)
      | (with_reducible exact path_IsName.mono _ _)
      | (with_reducible exact path_Join.mono _ _)
      | (with_reducible exact path_Less.mono _ _ _)
      | (with_reducible exact path_Parent.mono _ _)
      | (with_reducible exact path_Split.mono _ _)
      | (with_reducible exact path_Within.mono _ _ _)
      | (with_reducible exact LeO.refl _)
      | (with_reducible exact LeO.none _)
      | (with_reducible refine LeO.ite ?_ ?_)
      | (with_reducible refine LeO.bind ?_ (fun _ => ?_))
      | exact ih0 _ _ _ _ _ _ _
      | exact garretlaw17_works.mono _
      | exact path_IsName.mono _ _
      | exact path_Join.mono _ _
      | exact path_Less.mono _ _ _
      | exact path_Parent.mono _ _
      | exact path_Split.mono _ _
      | exact path_Within.mono _ _ _
      | exact LeO.none _
      | refine LeO.ite ?_ ?_
      | refine LeO.bind ?_ (fun _ => ?_)
theorem garretlaw17_PathBack.mono : ∀ a0 k, LeO (garretlaw17_PathBack.f k a0) (garretlaw17_PathBack.f (k + 1) a0) := by
  intro a0 k
  have ih0 := garretlaw17_PathBack.mono_l k
  unfold garretlaw17_PathBack.f
  repeat' first
      | (with_reducible exact ih0 _ _ _ _ _ _ _)
      | (with_reducible exact garretlaw17_works.mono _)
      | (with_reducible exact path_IsName.mono _ _)
      | (with_reducible exact path_Join.mono _ _)
      | (with_reducible exact path_Less.mono _ _ _)
      | (with_reducible exact path_Parent.mono _ _)
      | (with_reducible exact path_Split.mono _ _)
      | (with_reducible exact path_Within.mono _ _ _)
      | (with_reducible exact LeO.refl _)
      | (with_reducible exact LeO.none _)
      | (with_reducible refine LeO.ite ?_ ?_)
      | (with_reducible refine LeO.bind ?_ (fun _ => ?_))
      | exact ih0 _ _ _ _ _ _ _
      | exact garretlaw17_works.mono _
      | exact path_IsName.mono _ _
      | exact path_Join.mono _ _
      | exact path_Less.mono _ _ _
      | exact path_Parent.mono _ _
      | exact path_Split.mono _ _
      | exact path_Within.mono _ _ _
      | exact LeO.none _
      | refine LeO.ite ?_ ?_
      | refine LeO.bind ?_ (fun _ => ?_)
set_option maxHeartbeats 8000000 in
set_option maxRecDepth 100000 in
theorem garretlaw17_PathBack.calls (k : Nat) (a0 : ByteArray) (r : Bool) (w : World) (hL : Laid w) (h : garretlaw17_PathBack.f k a0 = some r) :
    Calls Tryd.prog 11 #[.string a0] w fun e w' => e = .returned (.bool r) ∧ Below w.heap.size w w' := by
  have HLAID := Aside0.mk hL
  clear hL
  have HB := Aside0.mk (Below.refl w.heap.size w)
  have H : ((garretlaw17_works.f k).bind fun t164 => (if t164 = true then ((path_Split.f k a0).bind fun bt165 => ((path_Parent.f k a0).bind fun bt169 => (if bt165.2 = 0 then (garretlaw17_PathBack.j0 k a0 bt165.1 bt165.2 bt169.1 bt169.2.1 bt169.2.2 (bt169.2.2 != 0)) else (garretlaw17_PathBack.j0 k a0 bt165.1 bt165.2 bt169.1 bt169.2.1 bt169.2.2 true)))) else (none))) = some r := h
  clear h
  replace H := Option.bind_eq_some_iff.mp H
  obtain ⟨t164, A20, H⟩ := H
  replace H : (if t164 = true then ((path_Split.f k a0).bind fun bt165 => ((path_Parent.f k a0).bind fun bt169 => (if bt165.2 = 0 then (garretlaw17_PathBack.j0 k a0 bt165.1 bt165.2 bt169.1 bt169.2.1 bt169.2.2 (bt169.2.2 != 0)) else (garretlaw17_PathBack.j0 k a0 bt165.1 bt165.2 bt169.1 bt169.2.1 bt169.2.2 true)))) else (none)) = some r := H
  have A2 := Aside0.mk A20
  clear A20
  by_cases c3 : t164 = true
  · subst c3
    have H1 : ((path_Split.f k a0).bind fun bt165 => ((path_Parent.f k a0).bind fun bt169 => (if bt165.2 = 0 then (garretlaw17_PathBack.j0 k a0 bt165.1 bt165.2 bt169.1 bt169.2.1 bt169.2.2 (bt169.2.2 != 0)) else (garretlaw17_PathBack.j0 k a0 bt165.1 bt165.2 bt169.1 bt169.2.1 bt169.2.2 true)))) = some r := by rw [if_pos rfl] at H; exact H
    clear H
    have H := H1
    clear H1
    replace H := Option.bind_eq_some_iff.mp H
    obtain ⟨⟨t165, t166⟩, A40, H⟩ := H
    replace H : ((path_Parent.f k a0).bind fun bt169 => (if t166 = 0 then (garretlaw17_PathBack.j0 k a0 t165 t166 bt169.1 bt169.2.1 bt169.2.2 (bt169.2.2 != 0)) else (garretlaw17_PathBack.j0 k a0 t165 t166 bt169.1 bt169.2.1 bt169.2.2 true))) = some r := H
    have A4 := Aside0.mk A40
    clear A40
    replace H := Option.bind_eq_some_iff.mp H
    obtain ⟨⟨t169, t170, t171⟩, A50, H⟩ := H
    replace H : (if t166 = 0 then (garretlaw17_PathBack.j0 k a0 t165 t166 t169 t170 t171 (t171 != 0)) else (garretlaw17_PathBack.j0 k a0 t165 t166 t169 t170 t171 true)) = some r := H
    have A5 := Aside0.mk A50
    clear A50
    have HC6 := Aside0.mk H
    clear H
    go_enter Tryd.func11, Tryd.ntmps11
    go_upto_region 5 with (first | ((with_reducible refine gate_callee (f := 19) rfl ?_); refine goesL_ (some 13) rfl rfl Tryd.func19 (by kernel_rfl) rfl #[] rfl (by (try simp only [List.map_toArray, List.map_cons, List.map_nil]); first | done | rfl | (simp only [List.length_drop, List.length_take]; rfl)) ?_; (with_reducible refine (garretlaw17_works.calls k  true _ ?side1 A2.out).mono ?_); (case side1 => first | exact HLAID.out | exact Laid.drewN HLAID.out _ | exact Laid.below HLAID.out (by repeat (first | (with_reducible first | exact HB.out | apply below_alloc | apply pw_below_drewN | apply below_drew1) | exact HB.out))); rintro e w7 ⟨rfl, hb⟩; refine ⟨_, rfl, ?_⟩; have n0_ := Aside0.mk (below_step (by repeat (first | (with_reducible first | exact HB.out | apply below_alloc | apply pw_below_drewN | apply below_drew1) | exact HB.out)) hb); clear HB; have HB := n0_; clear n0_; (try clear hb); (try clear hb2); (try clear hk); (try clear hi)) | ((with_reducible refine gate_callee (f := 39) rfl ?_); refine goesL_ (some 17) rfl rfl Tryd.func39 (by kernel_rfl) rfl #[.string a0] rfl (by (try simp only [List.map_toArray, List.map_cons, List.map_nil]); first | done | rfl | (simp only [List.length_drop, List.length_take]; rfl)) ?_; (with_reducible refine (path_Split.calls k a0 t165 t166 _ ?side1 A4.out).mono ?_); (case side1 => first | exact HLAID.out | exact Laid.drewN HLAID.out _ | exact Laid.below HLAID.out (by repeat (first | (with_reducible first | exact HB.out | apply below_alloc | apply pw_below_drewN | apply below_drew1) | exact HB.out))); rintro e w8 ⟨v167, rfl, ho0, hb⟩; refine ⟨_, rfl, ?_⟩; have n0_ := Aside0.mk (Kd.R_lower ho0 (below_size (by repeat (first | (with_reducible first | exact HB.out | apply below_alloc | apply pw_below_drewN | apply below_drew1) | exact HB.out)))); have n1_ := Aside0.mk (below_step (by repeat (first | (with_reducible first | exact HB.out | apply below_alloc | apply pw_below_drewN | apply below_drew1) | exact HB.out)) hb); clear HB; have HO168 := n0_; have HB := n1_; clear n0_ n1_; (try clear hb); (try clear hb2); (try clear hk); (try clear hi); (try clear ho0)) | ((with_reducible refine gate_callee (f := 43) rfl ?_); refine goesL_ (some 22) rfl rfl Tryd.func43 (by kernel_rfl) rfl #[.string a0] rfl (by (try simp only [List.map_toArray, List.map_cons, List.map_nil]); first | done | rfl | (simp only [List.length_drop, List.length_take]; rfl)) ?_; (with_reducible refine (path_Parent.calls k a0 t169 t170 t171 _ ?side1 A5.out).mono ?_); (case side1 => first | exact HLAID.out | exact Laid.drewN HLAID.out _ | exact Laid.below HLAID.out (by repeat (first | (with_reducible first | exact HB.out | apply below_alloc | apply pw_below_drewN | apply below_drew1) | exact HB.out))); rintro e w9 ⟨rfl, hb⟩; refine ⟨_, rfl, ?_⟩; have n0_ := Aside0.mk (Kd.R_below (by (with_reducible repeat (first | apply Kd.R_alloc | apply Kd.R_drewN | apply Kd.R_drew)); exact HO168.out) hb); have n1_ := Aside0.mk (below_step (by repeat (first | (with_reducible first | exact HB.out | apply below_alloc | apply pw_below_drewN | apply below_drew1) | exact HB.out)) hb); clear HO168; clear HB; have HO168 := n0_; have HB := n1_; clear n0_ n1_; (try clear hb); (try clear hb2); (try clear hk); (try clear hi)))
    (try simp only [Act.put, List.setIfInBounds_toArray, List.set_cons_zero, List.set_cons_succ])
    go_cut [31] (fun v31 wc => ∃ (kq : Nat) (x31_5 : Bool), v31 = .bool x31_5 ∧ Aside0 (garretlaw17_PathBack.j0 kq a0 t165 t166 t169 t170 t171 x31_5 = some r) ∧ Aside0 (kq ≤ k) ∧ Aside0 (Kd.R Kd.string 9 wc w.heap.size (fun _ => True) v167 t165) ∧ Aside0 (Below w.heap.size w wc))
    case first =>
      have H := HC6.out
      clear HC6
      by_cases c10 : t166 = 0
      · rw [if_pos c10] at H
        have c10b0 : (t166 == 0) = true := beq_iff_eq.mpr c10
        have c10b1 : (t166 != 0) = false := bne_eq_false_iff_eq.mpr c10
        clear c10
        (first | rw [c10b0] | (simp only [i64_w, i32_w]; rw [c10b0]) | skip)
        have H' := Aside0.mk H
        clear H
        go_wp2
        go_meet
        case rel => exact ⟨_, ((t171 != 0)), (by first | rfl | (simp; done) | (simp [*]; done) | (simp; exact (by decide : ∀ p q : Bool, (p == q) = (!(p != q))) _ _) | (simp; exact (by decide : ∀ p q : Bool, (!(p != q)) = (p == q)) _ _)), H', ⟨by first | omega | exact Nat.le_refl _⟩, ⟨by (with_reducible repeat (first | apply Kd.R_alloc | apply Kd.R_drewN | apply Kd.R_drew)); exact HO168.out⟩, ⟨by repeat (first | (with_reducible first | exact HB.out | apply below_alloc | apply pw_below_drewN | apply below_drew1) | exact HB.out)⟩⟩
      · rw [if_neg c10] at H
        have c10b0 : (t166 == 0) = false := beq_eq_false_iff_ne.mpr c10
        have c10b1 : (t166 != 0) = true := bne_iff_ne.mpr c10
        (first | rw [c10b0] | (simp only [i64_w, i32_w]; rw [c10b0]) | skip)
        have H' := Aside0.mk H
        clear H
        go_wp2
        go_meet
        case rel => exact ⟨_, (true), (by first | rfl | (simp; done) | (simp [*]; done) | (simp; exact (by decide : ∀ p q : Bool, (p == q) = (!(p != q))) _ _) | (simp; exact (by decide : ∀ p q : Bool, (!(p != q)) = (p == q)) _ _)), H', ⟨by first | omega | exact Nat.le_refl _⟩, ⟨by (with_reducible repeat (first | apply Kd.R_alloc | apply Kd.R_drewN | apply Kd.R_drew)); exact HO168.out⟩, ⟨by repeat (first | (with_reducible first | exact HB.out | apply below_alloc | apply pw_below_drewN | apply below_drew1) | exact HB.out)⟩⟩
    case rest =>
      clear HC6
      try clear c1
      try clear p2
      try clear c3
      try clear c4
      try clear c10
      try clear c10b0
      try clear c10b1
      obtain ⟨kq, x31_5, rfl, HA, HJ5, HO_3, HB⟩ := hcut
      cases kq with
      | zero => exact absurd HA.out (by simp [garretlaw17_PathBack.j0])
      | succ kj5 =>
        have H := HA.out
        clear HA
        simp only [garretlaw17_PathBack.j0] at H
        by_cases c11 : x31_5 = true
        · subst c11
          have H1 : (if t166 = 170 then (if t171 = 170 then (if (t165.length : Int) = 0 then (if t169.toList = ([] : List UInt8) then (some (t170.toList == ([] : List UInt8))) else (none)) else (none)) else (none)) else (none)) = some r := by rw [if_pos rfl] at H; exact H
          clear H
          have H := H1
          clear H1
          by_cases c12 : t166 = 170
          · rw [if_pos c12] at H
            have c12b0 : (t166 == 170) = true := beq_iff_eq.mpr c12
            have c12b1 : (t166 != 170) = false := bne_eq_false_iff_eq.mpr c12
            clear c12
            by_cases c13 : t171 = 170
            · rw [if_pos c13] at H
              have c13b0 : (t171 == 170) = true := beq_iff_eq.mpr c13
              have c13b1 : (t171 != 170) = false := bne_eq_false_iff_eq.mpr c13
              clear c13
              by_cases c14 : (t165.length : Int) = 0
              · rw [if_pos c14] at H
                have c14b0 : ((t165.length : Int) == 0) = true := beq_iff_eq.mpr c14
                have c14b1 : ((t165.length : Int) != 0) = false := bne_eq_false_iff_eq.mpr c14
                clear c14
                by_cases c15 : t169.toList = ([] : List UInt8)
                · rw [if_pos c15] at H
                  have c15b0 : (t169.toList == ([] : List UInt8)) = true := beq_iff_eq.mpr c15
                  have c15b1 : (t169.toList != ([] : List UInt8)) = false := bne_eq_false_iff_eq.mpr c15
                  have c15b2 : t169.toList.isEmpty = true := by rw [c15]; rfl
                  clear c15
                  obtain rfl := Option.some.inj H
                  obtain ⟨Ao16, co16, eo16⟩ := Kd.R_slice HO_3.out
                  subst eo16
                  go_wp2
                  go_ret
                  exact ⟨by first | rfl | (simp [errW_none, errW_some] <;> rfl) | (simp [*, errW_none, errW_some] <;> rfl), by repeat (first | (with_reducible first | exact HB.out | apply below_alloc | apply pw_below_drewN | apply below_drew1) | exact HB.out)⟩
                · rw [if_neg c15] at H
                  exact absurd H (by simp)
              · rw [if_neg c14] at H
                exact absurd H (by simp)
            · rw [if_neg c13] at H
              exact absurd H (by simp)
          · rw [if_neg c12] at H
            exact absurd H (by simp)
        · replace c11 := Bool.eq_false_iff.mpr c11
          subst c11
          have H1 : ((path_Join.f kj5 t165).bind fun bt172 => ((path_Within.f kj5 t169 a0).bind fun bt174 => (if t169.toList = ([] : List UInt8) then (if bt172.2 = 0 then (if bt172.1.toList = a0.toList then (if bt174.2 = true then (if bt174.1.toList = t170.toList then (if t170.toList = a0.toList then ((path_Less.f kj5 t169 a0).bind fun t176 => (if t176 = true then ((path_Less.f kj5 a0 t169).bind fun t177 => (if t177 = true then (none) else ((path_IsName.f kj5 t170).bind fun t178 => (if t178 = true then (if 0 ≤ (wrap64 ((t165.length : Int) - 1)) then (if (wrap64 ((t165.length : Int) - 1)) < (t165.length : Int) then (some (t170.toList == (rdOf ByteArray.empty t165 (wrap64 ((t165.length : Int) - 1))).toList)) else (none)) else (none)) else (none))))) else (none))) else (none)) else (none)) else (none)) else (none)) else (none)) else (if t169.size + 1 ≤ 9223372036854775807 then (if (t169 ++ (⟨#[47]⟩ : ByteArray)).size + t170.size ≤ 9223372036854775807 then (if bt172.2 = 0 then (if bt172.1.toList = a0.toList then (if bt174.2 = true then (if bt174.1.toList = t170.toList then (if ((t169 ++ (⟨#[47]⟩ : ByteArray)) ++ t170).toList = a0.toList then ((path_Less.f kj5 t169 a0).bind fun t180 => (if t180 = true then ((path_Less.f kj5 a0 t169).bind fun t181 => (if t181 = true then (none) else ((path_IsName.f kj5 t170).bind fun t182 => (if t182 = true then (if 0 ≤ (wrap64 ((t165.length : Int) - 1)) then (if (wrap64 ((t165.length : Int) - 1)) < (t165.length : Int) then (some (t170.toList == (rdOf ByteArray.empty t165 (wrap64 ((t165.length : Int) - 1))).toList)) else (none)) else (none)) else (none))))) else (none))) else (none)) else (none)) else (none)) else (none)) else (none)) else (none)) else (none))))) = some r := by rw [if_neg (show ¬ (false = true) by decide)] at H; exact H
          clear H
          have H := H1
          clear H1
          replace H := Option.bind_eq_some_iff.mp H
          obtain ⟨⟨t172, t173⟩, A170, H⟩ := H
          replace H : ((path_Within.f kj5 t169 a0).bind fun bt174 => (if t169.toList = ([] : List UInt8) then (if t173 = 0 then (if t172.toList = a0.toList then (if bt174.2 = true then (if bt174.1.toList = t170.toList then (if t170.toList = a0.toList then ((path_Less.f kj5 t169 a0).bind fun t176 => (if t176 = true then ((path_Less.f kj5 a0 t169).bind fun t177 => (if t177 = true then (none) else ((path_IsName.f kj5 t170).bind fun t178 => (if t178 = true then (if 0 ≤ (wrap64 ((t165.length : Int) - 1)) then (if (wrap64 ((t165.length : Int) - 1)) < (t165.length : Int) then (some (t170.toList == (rdOf ByteArray.empty t165 (wrap64 ((t165.length : Int) - 1))).toList)) else (none)) else (none)) else (none))))) else (none))) else (none)) else (none)) else (none)) else (none)) else (none)) else (if t169.size + 1 ≤ 9223372036854775807 then (if (t169 ++ (⟨#[47]⟩ : ByteArray)).size + t170.size ≤ 9223372036854775807 then (if t173 = 0 then (if t172.toList = a0.toList then (if bt174.2 = true then (if bt174.1.toList = t170.toList then (if ((t169 ++ (⟨#[47]⟩ : ByteArray)) ++ t170).toList = a0.toList then ((path_Less.f kj5 t169 a0).bind fun t180 => (if t180 = true then ((path_Less.f kj5 a0 t169).bind fun t181 => (if t181 = true then (none) else ((path_IsName.f kj5 t170).bind fun t182 => (if t182 = true then (if 0 ≤ (wrap64 ((t165.length : Int) - 1)) then (if (wrap64 ((t165.length : Int) - 1)) < (t165.length : Int) then (some (t170.toList == (rdOf ByteArray.empty t165 (wrap64 ((t165.length : Int) - 1))).toList)) else (none)) else (none)) else (none))))) else (none))) else (none)) else (none)) else (none)) else (none)) else (none)) else (none)) else (none)))) = some r := H
          have A17 := Aside0.mk A170
          clear A170
          replace H := Option.bind_eq_some_iff.mp H
          obtain ⟨⟨t174, t175⟩, A180, H⟩ := H
          replace H : (if t169.toList = ([] : List UInt8) then (if t173 = 0 then (if t172.toList = a0.toList then (if t175 = true then (if t174.toList = t170.toList then (if t170.toList = a0.toList then ((path_Less.f kj5 t169 a0).bind fun t176 => (if t176 = true then ((path_Less.f kj5 a0 t169).bind fun t177 => (if t177 = true then (none) else ((path_IsName.f kj5 t170).bind fun t178 => (if t178 = true then (if 0 ≤ (wrap64 ((t165.length : Int) - 1)) then (if (wrap64 ((t165.length : Int) - 1)) < (t165.length : Int) then (some (t170.toList == (rdOf ByteArray.empty t165 (wrap64 ((t165.length : Int) - 1))).toList)) else (none)) else (none)) else (none))))) else (none))) else (none)) else (none)) else (none)) else (none)) else (none)) else (if t169.size + 1 ≤ 9223372036854775807 then (if (t169 ++ (⟨#[47]⟩ : ByteArray)).size + t170.size ≤ 9223372036854775807 then (if t173 = 0 then (if t172.toList = a0.toList then (if t175 = true then (if t174.toList = t170.toList then (if ((t169 ++ (⟨#[47]⟩ : ByteArray)) ++ t170).toList = a0.toList then ((path_Less.f kj5 t169 a0).bind fun t180 => (if t180 = true then ((path_Less.f kj5 a0 t169).bind fun t181 => (if t181 = true then (none) else ((path_IsName.f kj5 t170).bind fun t182 => (if t182 = true then (if 0 ≤ (wrap64 ((t165.length : Int) - 1)) then (if (wrap64 ((t165.length : Int) - 1)) < (t165.length : Int) then (some (t170.toList == (rdOf ByteArray.empty t165 (wrap64 ((t165.length : Int) - 1))).toList)) else (none)) else (none)) else (none))))) else (none))) else (none)) else (none)) else (none)) else (none)) else (none)) else (none)) else (none))) = some r := H
          have A18 := Aside0.mk A180
          clear A180
          by_cases c19 : t169.toList = ([] : List UInt8)
          · rw [if_pos c19] at H
            have c19b0 : (t169.toList == ([] : List UInt8)) = true := beq_iff_eq.mpr c19
            have c19b1 : (t169.toList != ([] : List UInt8)) = false := bne_eq_false_iff_eq.mpr c19
            have c19b2 : t169.toList.isEmpty = true := by rw [c19]; rfl
            clear c19
            by_cases c20 : t173 = 0
            · rw [if_pos c20] at H
              have c20b0 : (t173 == 0) = true := beq_iff_eq.mpr c20
              have c20b1 : (t173 != 0) = false := bne_eq_false_iff_eq.mpr c20
              clear c20
              by_cases c21 : t172.toList = a0.toList
              · rw [if_pos c21] at H
                have c21b0 : (t172.toList == a0.toList) = true := beq_iff_eq.mpr c21
                have c21b1 : (t172.toList != a0.toList) = false := bne_eq_false_iff_eq.mpr c21
                clear c21
                by_cases c22 : t175 = true
                · subst c22
                  have H1 : (if t174.toList = t170.toList then (if t170.toList = a0.toList then ((path_Less.f kj5 t169 a0).bind fun t176 => (if t176 = true then ((path_Less.f kj5 a0 t169).bind fun t177 => (if t177 = true then (none) else ((path_IsName.f kj5 t170).bind fun t178 => (if t178 = true then (if 0 ≤ (wrap64 ((t165.length : Int) - 1)) then (if (wrap64 ((t165.length : Int) - 1)) < (t165.length : Int) then (some (t170.toList == (rdOf ByteArray.empty t165 (wrap64 ((t165.length : Int) - 1))).toList)) else (none)) else (none)) else (none))))) else (none))) else (none)) else (none)) = some r := by rw [if_pos rfl] at H; exact H
                  clear H
                  have H := H1
                  clear H1
                  by_cases c23 : t174.toList = t170.toList
                  · rw [if_pos c23] at H
                    have c23b0 : (t174.toList == t170.toList) = true := beq_iff_eq.mpr c23
                    have c23b1 : (t174.toList != t170.toList) = false := bne_eq_false_iff_eq.mpr c23
                    clear c23
                    by_cases c24 : t170.toList = a0.toList
                    · rw [if_pos c24] at H
                      have c24b0 : (t170.toList == a0.toList) = true := beq_iff_eq.mpr c24
                      have c24b1 : (t170.toList != a0.toList) = false := bne_eq_false_iff_eq.mpr c24
                      clear c24
                      replace H := Option.bind_eq_some_iff.mp H
                      obtain ⟨t176, A250, H⟩ := H
                      replace H : (if t176 = true then ((path_Less.f kj5 a0 t169).bind fun t177 => (if t177 = true then (none) else ((path_IsName.f kj5 t170).bind fun t178 => (if t178 = true then (if 0 ≤ (wrap64 ((t165.length : Int) - 1)) then (if (wrap64 ((t165.length : Int) - 1)) < (t165.length : Int) then (some (t170.toList == (rdOf ByteArray.empty t165 (wrap64 ((t165.length : Int) - 1))).toList)) else (none)) else (none)) else (none))))) else (none)) = some r := H
                      have A25 := Aside0.mk A250
                      clear A250
                      by_cases c26 : t176 = true
                      · subst c26
                        have H1 : ((path_Less.f kj5 a0 t169).bind fun t177 => (if t177 = true then (none) else ((path_IsName.f kj5 t170).bind fun t178 => (if t178 = true then (if 0 ≤ (wrap64 ((t165.length : Int) - 1)) then (if (wrap64 ((t165.length : Int) - 1)) < (t165.length : Int) then (some (t170.toList == (rdOf ByteArray.empty t165 (wrap64 ((t165.length : Int) - 1))).toList)) else (none)) else (none)) else (none))))) = some r := by rw [if_pos rfl] at H; exact H
                        clear H
                        have H := H1
                        clear H1
                        replace H := Option.bind_eq_some_iff.mp H
                        obtain ⟨t177, A270, H⟩ := H
                        replace H : (if t177 = true then (none) else ((path_IsName.f kj5 t170).bind fun t178 => (if t178 = true then (if 0 ≤ (wrap64 ((t165.length : Int) - 1)) then (if (wrap64 ((t165.length : Int) - 1)) < (t165.length : Int) then (some (t170.toList == (rdOf ByteArray.empty t165 (wrap64 ((t165.length : Int) - 1))).toList)) else (none)) else (none)) else (none)))) = some r := H
                        have A27 := Aside0.mk A270
                        clear A270
                        by_cases c28 : t177 = true
                        · subst c28
                          have H1 : (none) = some r := by rw [if_pos rfl] at H; exact H
                          clear H
                          have H := H1
                          clear H1
                          exact absurd H (by simp)
                        · replace c28 := Bool.eq_false_iff.mpr c28
                          subst c28
                          have H1 : ((path_IsName.f kj5 t170).bind fun t178 => (if t178 = true then (if 0 ≤ (wrap64 ((t165.length : Int) - 1)) then (if (wrap64 ((t165.length : Int) - 1)) < (t165.length : Int) then (some (t170.toList == (rdOf ByteArray.empty t165 (wrap64 ((t165.length : Int) - 1))).toList)) else (none)) else (none)) else (none))) = some r := by rw [if_neg (show ¬ (false = true) by decide)] at H; exact H
                          clear H
                          have H := H1
                          clear H1
                          replace H := Option.bind_eq_some_iff.mp H
                          obtain ⟨t178, A290, H⟩ := H
                          replace H : (if t178 = true then (if 0 ≤ (wrap64 ((t165.length : Int) - 1)) then (if (wrap64 ((t165.length : Int) - 1)) < (t165.length : Int) then (some (t170.toList == (rdOf ByteArray.empty t165 (wrap64 ((t165.length : Int) - 1))).toList)) else (none)) else (none)) else (none)) = some r := H
                          have A29 := Aside0.mk A290
                          clear A290
                          by_cases c30 : t178 = true
                          · subst c30
                            have H1 : (if 0 ≤ (wrap64 ((t165.length : Int) - 1)) then (if (wrap64 ((t165.length : Int) - 1)) < (t165.length : Int) then (some (t170.toList == (rdOf ByteArray.empty t165 (wrap64 ((t165.length : Int) - 1))).toList)) else (none)) else (none)) = some r := by rw [if_pos rfl] at H; exact H
                            clear H
                            have H := H1
                            clear H1
                            obtain ⟨ji31, hji31⟩ : ∃ j_ : Int, (wrap64 ((t165.length : Int) - 1)) = j_ := ⟨_, rfl⟩
                            replace H : (if 0 ≤ (ji31) then (if (ji31) < (t165.length : Int) then (some (t170.toList == (rdOf ByteArray.empty t165 (ji31)).toList)) else (none)) else (none)) = some r := by first | (rw [hji31] at H; exact H) | (simp only [hji31] at H ⊢; exact H)
                            (try rw [hji31] at A17)
                            (try rw [hji31] at A18)
                            (try rw [hji31] at A25)
                            (try rw [hji31] at A27)
                            (try rw [hji31] at A29)
                            have hji31w : (IntKind.i64.wrap ((t165.length : Int) - 1)) = ji31 := (i64_w _).trans hji31
                            by_cases c32 : 0 ≤ (ji31)
                            · rw [if_pos c32] at H
                              have c32b0 : decide (0 ≤ (ji31)) = true := decide_eq_true c32
                              clear c32
                              by_cases c33 : (ji31) < (t165.length : Int)
                              · rw [if_pos c33] at H
                                have c33b0 : decide ((ji31) < (t165.length : Int)) = true := decide_eq_true c33
                                clear c33
                                obtain rfl := Option.some.inj H
                                obtain ⟨Ao34, co34, eo34⟩ := Kd.R_slice HO_3.out
                                subst eo34
                                go_wp2_with (first | ((with_reducible refine gate_callee (f := 41) rfl ?_); refine goesL_ (some 53) rfl rfl Tryd.func41 (by kernel_rfl) rfl #[.slice Ao34 t165.length co34] rfl (by (try simp only [List.map_toArray, List.map_cons, List.map_nil]); first | done | rfl | (simp only [List.length_drop, List.length_take]; rfl)) ?_; (with_reducible refine (path_Join.calls kj5 _ _ t165 t172 t173 _ ?side1 ?side2 A17.out).mono ?_); (case side1 => repeat (first | exact (Kd.R_reads' HO_3.out).2.2 | (with_reducible refine Kd.C_alloc ?_ _) | (with_reducible refine Kd.C_drewN ?_ _) | (with_reducible refine Kd.C_drew ?_))); (case side2 => exact (Kd.R_reads' HO_3.out).2.1); rintro e w35 ⟨rfl, hb⟩; refine ⟨_, rfl, ?_⟩; have n0_ := Aside0.mk (Kd.R_below (by (with_reducible repeat (first | apply Kd.R_alloc | apply Kd.R_drewN | apply Kd.R_drew)); exact HO_3.out) hb); have n1_ := Aside0.mk (below_step (by repeat (first | (with_reducible first | exact HB.out | apply below_alloc | apply pw_below_drewN | apply below_drew1) | exact HB.out)) hb); clear HO_3; clear HB; have HO_3 := n0_; have HB := n1_; clear n0_ n1_; (try clear hb); (try clear hb2); (try clear hk); (try clear hi)) | ((with_reducible refine gate_callee (f := 32) rfl ?_); refine goesL_ (some 59) rfl rfl Tryd.func32 (by kernel_rfl) rfl #[.string t169, .string a0] rfl (by (try simp only [List.map_toArray, List.map_cons, List.map_nil]); first | done | rfl | (simp only [List.length_drop, List.length_take]; rfl)) ?_; (with_reducible refine (path_Within.calls kj5 t169 a0 t174 true _ ?side1 A18.out).mono ?_); (case side1 => first | exact HLAID.out | exact Laid.drewN HLAID.out _ | exact Laid.below HLAID.out (by repeat (first | (with_reducible first | exact HB.out | apply below_alloc | apply pw_below_drewN | apply below_drew1) | exact HB.out))); rintro e w36 ⟨rfl, hb⟩; refine ⟨_, rfl, ?_⟩; have n0_ := Aside0.mk (Kd.R_below (by (with_reducible repeat (first | apply Kd.R_alloc | apply Kd.R_drewN | apply Kd.R_drew)); exact HO_3.out) hb); have n1_ := Aside0.mk (below_step (by repeat (first | (with_reducible first | exact HB.out | apply below_alloc | apply pw_below_drewN | apply below_drew1) | exact HB.out)) hb); clear HO_3; clear HB; have HO_3 := n0_; have HB := n1_; clear n0_ n1_; (try clear hb); (try clear hb2); (try clear hk); (try clear hi)) | (go_at_call 20; (with_reducible refine (path_Less.calls kj5 t169 a0 true _ ?side1 A25.out).mono ?_); (case side1 => first | exact HLAID.out | exact Laid.drewN HLAID.out _ | exact Laid.below HLAID.out (by repeat (first | (with_reducible first | exact HB.out | apply below_alloc | apply pw_below_drewN | apply below_drew1) | exact HB.out))); rintro e w37 ⟨rfl, hb⟩; have n0_ := Aside0.mk (Kd.R_below (by (with_reducible repeat (first | apply Kd.R_alloc | apply Kd.R_drewN | apply Kd.R_drew)); exact HO_3.out) hb); have n1_ := Aside0.mk (below_step (by repeat (first | (with_reducible first | exact HB.out | apply below_alloc | apply pw_below_drewN | apply below_drew1) | exact HB.out)) hb); clear HO_3; clear HB; have HO_3 := n0_; have HB := n1_; clear n0_ n1_; (try clear hb); (try clear hb2); (try clear hk); (try clear hi)) | (go_at_call 20; (with_reducible refine (path_Less.calls kj5 a0 t169 false _ ?side1 A27.out).mono ?_); (case side1 => first | exact HLAID.out | exact Laid.drewN HLAID.out _ | exact Laid.below HLAID.out (by repeat (first | (with_reducible first | exact HB.out | apply below_alloc | apply pw_below_drewN | apply below_drew1) | exact HB.out))); rintro e w38 ⟨rfl, hb⟩; have n0_ := Aside0.mk (Kd.R_below (by (with_reducible repeat (first | apply Kd.R_alloc | apply Kd.R_drewN | apply Kd.R_drew)); exact HO_3.out) hb); have n1_ := Aside0.mk (below_step (by repeat (first | (with_reducible first | exact HB.out | apply below_alloc | apply pw_below_drewN | apply below_drew1) | exact HB.out)) hb); clear HO_3; clear HB; have HO_3 := n0_; have HB := n1_; clear n0_ n1_; (try clear hb); (try clear hb2); (try clear hk); (try clear hi)) | (go_at_call 45; (with_reducible refine (path_IsName.calls kj5 t170 true _ A29.out).mono ?_); rintro e w' ⟨rfl, ⟨nd, rfl⟩⟩; have p179 : 0 ≤ ((ji31) : Int) := of_decide_eq_true (by first | (with_reducible assumption) | assumption); have q179 : (ji31) < (t165.length : Int) := of_decide_eq_true (by first | (with_reducible assumption) | assumption); obtain ⟨ad179, e179, hx179_0⟩ := Kd.at_string (Kd.R_reads' HO_3.out).2.2 (ji31) p179 q179; cases e179; replace p179 := eq_true p179; replace q179 := eq_true q179))
                                go_ret
                                exact ⟨by first | rfl | (simp [errW_none, errW_some] <;> rfl) | (simp only [← hji31]; first | rfl | (simp [errW_none, errW_some] <;> rfl)) | (simp [*, errW_none, errW_some] <;> rfl), by repeat (first | (with_reducible first | exact HB.out | apply below_alloc | apply pw_below_drewN | apply below_drew1) | exact HB.out)⟩
                              · rw [if_neg c33] at H
                                exact absurd H (by simp)
                            · rw [if_neg c32] at H
                              exact absurd H (by simp)
                          · replace c30 := Bool.eq_false_iff.mpr c30
                            subst c30
                            have H1 : (none) = some r := by rw [if_neg (show ¬ (false = true) by decide)] at H; exact H
                            clear H
                            have H := H1
                            clear H1
                            exact absurd H (by simp)
                      · replace c26 := Bool.eq_false_iff.mpr c26
                        subst c26
                        have H1 : (none) = some r := by rw [if_neg (show ¬ (false = true) by decide)] at H; exact H
                        clear H
                        have H := H1
                        clear H1
                        exact absurd H (by simp)
                    · rw [if_neg c24] at H
                      exact absurd H (by simp)
                  · rw [if_neg c23] at H
                    exact absurd H (by simp)
                · replace c22 := Bool.eq_false_iff.mpr c22
                  subst c22
                  have H1 : (none) = some r := by rw [if_neg (show ¬ (false = true) by decide)] at H; exact H
                  clear H
                  have H := H1
                  clear H1
                  exact absurd H (by simp)
              · rw [if_neg c21] at H
                exact absurd H (by simp)
            · rw [if_neg c20] at H
              exact absurd H (by simp)
          · rw [if_neg c19] at H
            have c19b0 : (t169.toList == ([] : List UInt8)) = false := beq_eq_false_iff_ne.mpr c19
            have c19b1 : (t169.toList != ([] : List UInt8)) = true := bne_iff_ne.mpr c19
            have c19b2 : t169.toList.isEmpty = false := by simpa using c19
            by_cases c39 : t169.size + 1 ≤ 9223372036854775807
            · rw [if_pos c39] at H
              have c39b0 := eq_true c39
              have c39b1 : decide (t169.size + 1 ≤ 9223372036854775807) = true := decide_eq_true c39
              try have c39b2 : (9223372036854775807 < t169.size + 1) = False := eq_false (Nat.not_lt.2 c39)
              by_cases c40 : (t169 ++ (⟨#[47]⟩ : ByteArray)).size + t170.size ≤ 9223372036854775807
              · rw [if_pos c40] at H
                have c40b0 := eq_true c40
                have c40b1 : decide ((t169 ++ (⟨#[47]⟩ : ByteArray)).size + t170.size ≤ 9223372036854775807) = true := decide_eq_true c40
                try have c40b2 : (9223372036854775807 < (t169 ++ (⟨#[47]⟩ : ByteArray)).size + t170.size) = False := eq_false (Nat.not_lt.2 c40)
                try (have c40b2s := c40b2; simp only [ByteArray.size_append, show (⟨#[47]⟩ : ByteArray).size = 1 from rfl] at c40b2s)
                by_cases c41 : t173 = 0
                · rw [if_pos c41] at H
                  have c41b0 : (t173 == 0) = true := beq_iff_eq.mpr c41
                  have c41b1 : (t173 != 0) = false := bne_eq_false_iff_eq.mpr c41
                  clear c41
                  by_cases c42 : t172.toList = a0.toList
                  · rw [if_pos c42] at H
                    have c42b0 : (t172.toList == a0.toList) = true := beq_iff_eq.mpr c42
                    have c42b1 : (t172.toList != a0.toList) = false := bne_eq_false_iff_eq.mpr c42
                    clear c42
                    by_cases c43 : t175 = true
                    · subst c43
                      have H1 : (if t174.toList = t170.toList then (if ((t169 ++ (⟨#[47]⟩ : ByteArray)) ++ t170).toList = a0.toList then ((path_Less.f kj5 t169 a0).bind fun t180 => (if t180 = true then ((path_Less.f kj5 a0 t169).bind fun t181 => (if t181 = true then (none) else ((path_IsName.f kj5 t170).bind fun t182 => (if t182 = true then (if 0 ≤ (wrap64 ((t165.length : Int) - 1)) then (if (wrap64 ((t165.length : Int) - 1)) < (t165.length : Int) then (some (t170.toList == (rdOf ByteArray.empty t165 (wrap64 ((t165.length : Int) - 1))).toList)) else (none)) else (none)) else (none))))) else (none))) else (none)) else (none)) = some r := by rw [if_pos rfl] at H; exact H
                      clear H
                      have H := H1
                      clear H1
                      by_cases c44 : t174.toList = t170.toList
                      · rw [if_pos c44] at H
                        have c44b0 : (t174.toList == t170.toList) = true := beq_iff_eq.mpr c44
                        have c44b1 : (t174.toList != t170.toList) = false := bne_eq_false_iff_eq.mpr c44
                        clear c44
                        by_cases c45 : ((t169 ++ (⟨#[47]⟩ : ByteArray)) ++ t170).toList = a0.toList
                        · rw [if_pos c45] at H
                          have c45b0 : (((t169 ++ (⟨#[47]⟩ : ByteArray)) ++ t170).toList == a0.toList) = true := beq_iff_eq.mpr c45
                          have c45b1 : (((t169 ++ (⟨#[47]⟩ : ByteArray)) ++ t170).toList != a0.toList) = false := bne_eq_false_iff_eq.mpr c45
                          clear c45
                          replace H := Option.bind_eq_some_iff.mp H
                          obtain ⟨t180, A460, H⟩ := H
                          replace H : (if t180 = true then ((path_Less.f kj5 a0 t169).bind fun t181 => (if t181 = true then (none) else ((path_IsName.f kj5 t170).bind fun t182 => (if t182 = true then (if 0 ≤ (wrap64 ((t165.length : Int) - 1)) then (if (wrap64 ((t165.length : Int) - 1)) < (t165.length : Int) then (some (t170.toList == (rdOf ByteArray.empty t165 (wrap64 ((t165.length : Int) - 1))).toList)) else (none)) else (none)) else (none))))) else (none)) = some r := H
                          have A46 := Aside0.mk A460
                          clear A460
                          by_cases c47 : t180 = true
                          · subst c47
                            have H1 : ((path_Less.f kj5 a0 t169).bind fun t181 => (if t181 = true then (none) else ((path_IsName.f kj5 t170).bind fun t182 => (if t182 = true then (if 0 ≤ (wrap64 ((t165.length : Int) - 1)) then (if (wrap64 ((t165.length : Int) - 1)) < (t165.length : Int) then (some (t170.toList == (rdOf ByteArray.empty t165 (wrap64 ((t165.length : Int) - 1))).toList)) else (none)) else (none)) else (none))))) = some r := by rw [if_pos rfl] at H; exact H
                            clear H
                            have H := H1
                            clear H1
                            replace H := Option.bind_eq_some_iff.mp H
                            obtain ⟨t181, A480, H⟩ := H
                            replace H : (if t181 = true then (none) else ((path_IsName.f kj5 t170).bind fun t182 => (if t182 = true then (if 0 ≤ (wrap64 ((t165.length : Int) - 1)) then (if (wrap64 ((t165.length : Int) - 1)) < (t165.length : Int) then (some (t170.toList == (rdOf ByteArray.empty t165 (wrap64 ((t165.length : Int) - 1))).toList)) else (none)) else (none)) else (none)))) = some r := H
                            have A48 := Aside0.mk A480
                            clear A480
                            by_cases c49 : t181 = true
                            · subst c49
                              have H1 : (none) = some r := by rw [if_pos rfl] at H; exact H
                              clear H
                              have H := H1
                              clear H1
                              exact absurd H (by simp)
                            · replace c49 := Bool.eq_false_iff.mpr c49
                              subst c49
                              have H1 : ((path_IsName.f kj5 t170).bind fun t182 => (if t182 = true then (if 0 ≤ (wrap64 ((t165.length : Int) - 1)) then (if (wrap64 ((t165.length : Int) - 1)) < (t165.length : Int) then (some (t170.toList == (rdOf ByteArray.empty t165 (wrap64 ((t165.length : Int) - 1))).toList)) else (none)) else (none)) else (none))) = some r := by rw [if_neg (show ¬ (false = true) by decide)] at H; exact H
                              clear H
                              have H := H1
                              clear H1
                              replace H := Option.bind_eq_some_iff.mp H
                              obtain ⟨t182, A500, H⟩ := H
                              replace H : (if t182 = true then (if 0 ≤ (wrap64 ((t165.length : Int) - 1)) then (if (wrap64 ((t165.length : Int) - 1)) < (t165.length : Int) then (some (t170.toList == (rdOf ByteArray.empty t165 (wrap64 ((t165.length : Int) - 1))).toList)) else (none)) else (none)) else (none)) = some r := H
                              have A50 := Aside0.mk A500
                              clear A500
                              by_cases c51 : t182 = true
                              · subst c51
                                have H1 : (if 0 ≤ (wrap64 ((t165.length : Int) - 1)) then (if (wrap64 ((t165.length : Int) - 1)) < (t165.length : Int) then (some (t170.toList == (rdOf ByteArray.empty t165 (wrap64 ((t165.length : Int) - 1))).toList)) else (none)) else (none)) = some r := by rw [if_pos rfl] at H; exact H
                                clear H
                                have H := H1
                                clear H1
                                obtain ⟨ji52, hji52⟩ : ∃ j_ : Int, (wrap64 ((t165.length : Int) - 1)) = j_ := ⟨_, rfl⟩
                                replace H : (if 0 ≤ (ji52) then (if (ji52) < (t165.length : Int) then (some (t170.toList == (rdOf ByteArray.empty t165 (ji52)).toList)) else (none)) else (none)) = some r := by first | (rw [hji52] at H; exact H) | (simp only [hji52] at H ⊢; exact H)
                                (try rw [hji52] at A17)
                                (try rw [hji52] at A18)
                                (try rw [hji52] at A46)
                                (try rw [hji52] at A48)
                                (try rw [hji52] at A50)
                                have hji52w : (IntKind.i64.wrap ((t165.length : Int) - 1)) = ji52 := (i64_w _).trans hji52
                                by_cases c53 : 0 ≤ (ji52)
                                · rw [if_pos c53] at H
                                  have c53b0 : decide (0 ≤ (ji52)) = true := decide_eq_true c53
                                  clear c53
                                  by_cases c54 : (ji52) < (t165.length : Int)
                                  · rw [if_pos c54] at H
                                    have c54b0 : decide ((ji52) < (t165.length : Int)) = true := decide_eq_true c54
                                    clear c54
                                    obtain rfl := Option.some.inj H
                                    obtain ⟨Ao55, co55, eo55⟩ := Kd.R_slice HO_3.out
                                    subst eo55
                                    go_wp2_with (first | ((with_reducible refine gate_callee (f := 41) rfl ?_); refine goesL_ (some 53) rfl rfl Tryd.func41 (by kernel_rfl) rfl #[.slice Ao55 t165.length co55] rfl (by (try simp only [List.map_toArray, List.map_cons, List.map_nil]); first | done | rfl | (simp only [List.length_drop, List.length_take]; rfl)) ?_; (with_reducible refine (path_Join.calls kj5 _ _ t165 t172 t173 _ ?side1 ?side2 A17.out).mono ?_); (case side1 => repeat (first | exact (Kd.R_reads' HO_3.out).2.2 | (with_reducible refine Kd.C_alloc ?_ _) | (with_reducible refine Kd.C_drewN ?_ _) | (with_reducible refine Kd.C_drew ?_))); (case side2 => exact (Kd.R_reads' HO_3.out).2.1); rintro e w56 ⟨rfl, hb⟩; refine ⟨_, rfl, ?_⟩; have n0_ := Aside0.mk (Kd.R_below (by (with_reducible repeat (first | apply Kd.R_alloc | apply Kd.R_drewN | apply Kd.R_drew)); exact HO_3.out) hb); have n1_ := Aside0.mk (below_step (by repeat (first | (with_reducible first | exact HB.out | apply below_alloc | apply pw_below_drewN | apply below_drew1) | exact HB.out)) hb); clear HO_3; clear HB; have HO_3 := n0_; have HB := n1_; clear n0_ n1_; (try clear hb); (try clear hb2); (try clear hk); (try clear hi)) | ((with_reducible refine gate_callee (f := 32) rfl ?_); refine goesL_ (some 59) rfl rfl Tryd.func32 (by kernel_rfl) rfl #[.string t169, .string a0] rfl (by (try simp only [List.map_toArray, List.map_cons, List.map_nil]); first | done | rfl | (simp only [List.length_drop, List.length_take]; rfl)) ?_; (with_reducible refine (path_Within.calls kj5 t169 a0 t174 true _ ?side1 A18.out).mono ?_); (case side1 => first | exact HLAID.out | exact Laid.drewN HLAID.out _ | exact Laid.below HLAID.out (by repeat (first | (with_reducible first | exact HB.out | apply below_alloc | apply pw_below_drewN | apply below_drew1) | exact HB.out))); rintro e w57 ⟨rfl, hb⟩; refine ⟨_, rfl, ?_⟩; have n0_ := Aside0.mk (Kd.R_below (by (with_reducible repeat (first | apply Kd.R_alloc | apply Kd.R_drewN | apply Kd.R_drew)); exact HO_3.out) hb); have n1_ := Aside0.mk (below_step (by repeat (first | (with_reducible first | exact HB.out | apply below_alloc | apply pw_below_drewN | apply below_drew1) | exact HB.out)) hb); clear HO_3; clear HB; have HO_3 := n0_; have HB := n1_; clear n0_ n1_; (try clear hb); (try clear hb2); (try clear hk); (try clear hi)) | (go_at_call 20; (with_reducible refine (path_Less.calls kj5 t169 a0 true _ ?side1 A46.out).mono ?_); (case side1 => first | exact HLAID.out | exact Laid.drewN HLAID.out _ | exact Laid.below HLAID.out (by repeat (first | (with_reducible first | exact HB.out | apply below_alloc | apply pw_below_drewN | apply below_drew1) | exact HB.out))); rintro e w58 ⟨rfl, hb⟩; have n0_ := Aside0.mk (Kd.R_below (by (with_reducible repeat (first | apply Kd.R_alloc | apply Kd.R_drewN | apply Kd.R_drew)); exact HO_3.out) hb); have n1_ := Aside0.mk (below_step (by repeat (first | (with_reducible first | exact HB.out | apply below_alloc | apply pw_below_drewN | apply below_drew1) | exact HB.out)) hb); clear HO_3; clear HB; have HO_3 := n0_; have HB := n1_; clear n0_ n1_; (try clear hb); (try clear hb2); (try clear hk); (try clear hi)) | (go_at_call 20; (with_reducible refine (path_Less.calls kj5 a0 t169 false _ ?side1 A48.out).mono ?_); (case side1 => first | exact HLAID.out | exact Laid.drewN HLAID.out _ | exact Laid.below HLAID.out (by repeat (first | (with_reducible first | exact HB.out | apply below_alloc | apply pw_below_drewN | apply below_drew1) | exact HB.out))); rintro e w59 ⟨rfl, hb⟩; have n0_ := Aside0.mk (Kd.R_below (by (with_reducible repeat (first | apply Kd.R_alloc | apply Kd.R_drewN | apply Kd.R_drew)); exact HO_3.out) hb); have n1_ := Aside0.mk (below_step (by repeat (first | (with_reducible first | exact HB.out | apply below_alloc | apply pw_below_drewN | apply below_drew1) | exact HB.out)) hb); clear HO_3; clear HB; have HO_3 := n0_; have HB := n1_; clear n0_ n1_; (try clear hb); (try clear hb2); (try clear hk); (try clear hi)) | (go_at_call 45; (with_reducible refine (path_IsName.calls kj5 t170 true _ A50.out).mono ?_); rintro e w' ⟨rfl, ⟨nd, rfl⟩⟩; have p183 : 0 ≤ ((ji52) : Int) := of_decide_eq_true (by first | (with_reducible assumption) | assumption); have q183 : (ji52) < (t165.length : Int) := of_decide_eq_true (by first | (with_reducible assumption) | assumption); obtain ⟨ad183, e183, hx183_0⟩ := Kd.at_string (Kd.R_reads' HO_3.out).2.2 (ji52) p183 q183; cases e183; replace p183 := eq_true p183; replace q183 := eq_true q183))
                                    go_ret
                                    exact ⟨by first | rfl | (simp [errW_none, errW_some] <;> rfl) | (simp only [← hji52]; first | rfl | (simp [errW_none, errW_some] <;> rfl)) | (simp [*, errW_none, errW_some] <;> rfl), by repeat (first | (with_reducible first | exact HB.out | apply below_alloc | apply pw_below_drewN | apply below_drew1) | exact HB.out)⟩
                                  · rw [if_neg c54] at H
                                    exact absurd H (by simp)
                                · rw [if_neg c53] at H
                                  exact absurd H (by simp)
                              · replace c51 := Bool.eq_false_iff.mpr c51
                                subst c51
                                have H1 : (none) = some r := by rw [if_neg (show ¬ (false = true) by decide)] at H; exact H
                                clear H
                                have H := H1
                                clear H1
                                exact absurd H (by simp)
                          · replace c47 := Bool.eq_false_iff.mpr c47
                            subst c47
                            have H1 : (none) = some r := by rw [if_neg (show ¬ (false = true) by decide)] at H; exact H
                            clear H
                            have H := H1
                            clear H1
                            exact absurd H (by simp)
                        · rw [if_neg c45] at H
                          exact absurd H (by simp)
                      · rw [if_neg c44] at H
                        exact absurd H (by simp)
                    · replace c43 := Bool.eq_false_iff.mpr c43
                      subst c43
                      have H1 : (none) = some r := by rw [if_neg (show ¬ (false = true) by decide)] at H; exact H
                      clear H
                      have H := H1
                      clear H1
                      exact absurd H (by simp)
                  · rw [if_neg c42] at H
                    exact absurd H (by simp)
                · rw [if_neg c41] at H
                  exact absurd H (by simp)
              · rw [if_neg c40] at H
                exact absurd H (by simp)
            · rw [if_neg c39] at H
              exact absurd H (by simp)
  · replace c3 := Bool.eq_false_iff.mpr c3
    subst c3
    have H1 : (none) = some r := by rw [if_neg (show ¬ (false = true) by decide)] at H; exact H
    clear H
    have H := H1
    clear H1
    exact absurd H (by simp)

/-- THE ONE PURE STATEMENT of garretlaw17_PathBack: yours. -/
def garretlaw17_PathBack.Pure : Prop := ∀ (a0 : ByteArray), a0.size ≤ 1048576 → ∃ k, garretlaw17_PathBack.f k a0 = some true
theorem garretlaw17_PathBack.walk (P : garretlaw17_PathBack.Pure) (a0 : ByteArray) (w : World) (w0 : a0.size ≤ 1048576) (hL : Laid w) :
    Calls Tryd.prog 11 #[.string a0] w fun e w' => e = .returned (.bool true) ∧ Below w.heap.size w w' := by
  obtain ⟨k, h⟩ := P a0 w0
  refine (garretlaw17_PathBack.calls k a0 true w hL h).mono ?_
  rintro e w' ⟨rfl, hd⟩
  exact ⟨rfl, hd⟩

end Go.Proofs.YtcmajhdgaeploaaDoor.QPthB
