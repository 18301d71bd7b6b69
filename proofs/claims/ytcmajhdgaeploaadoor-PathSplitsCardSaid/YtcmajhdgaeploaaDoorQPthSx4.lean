-- Written for this claim by a program of this session.
import Derived.Test.YtcmajhdgaeploaaDoorQPthSx0
import Derived.Test.YtcmajhdgaeploaaDoorQPthSx1
import Derived.Test.YtcmajhdgaeploaaDoorQPthSx2
import Derived.Test.YtcmajhdgaeploaaDoorQPthSx3
namespace Go.Proofs.YtcmajhdgaeploaaDoor.QPthS
open Go.RowKit Go.Proofs.YtcmajhdgaeploaaDoorW.PrintWords Go.Proofs.YtcmajhdgaeploaaDoorW.PrintLast Go.Proofs.YtcmajhdgaeploaaDoorW.PrintMore
attribute [local go_sem] max2_int min2_int max_two min_two max_three min_three max_four min_four   -- for this text's walks alone
set_option linter.unusedVariables false
set_option linter.unusedSimpArgs false

/-! ### path_Parent: function 43 -/
def path_Parent.f (k : Nat) (a0 : ByteArray) : Option (ByteArray × ByteArray × Int) := (path_Split.f k a0).bind fun bt151 => (if bt151.2 = 0 then (if 0 ≤ (wrap64 ((bt151.1.length : Int) - 1)) then (if (wrap64 ((bt151.1.length : Int) - 1)) ≤ (bt151.1.length : Int) then ((strings_Join.f (bt151.1.take ((wrap64 ((bt151.1.length : Int) - 1)) : Int).toNat) (⟨#[47]⟩ : ByteArray)).bind fun t159 => (if (wrap64 ((bt151.1.length : Int) - 1)) < (bt151.1.length : Int) then (some (t159, rdOf ByteArray.empty bt151.1 (wrap64 ((bt151.1.length : Int) - 1)), 0)) else (none))) else (none)) else (none)) else (some ((⟨#[]⟩ : ByteArray), (⟨#[]⟩ : ByteArray), bt151.2)))
theorem path_Parent.mono : ∀ a0 k, LeO (path_Parent.f k a0) (path_Parent.f (k + 1) a0) := by
  intro a0 k
  unfold path_Parent.f
  repeat' first
      | (with_reducible exact path_Split.mono _ _)
      | (with_reducible exact LeO.refl _)
      | (with_reducible exact LeO.none _)
      | (with_reducible refine LeO.ite ?_ ?_)
      | (with_reducible refine LeO.bind ?_ (fun _ => ?_))
      | exact path_Split.mono _ _
      | exact LeO.none _
      | refine LeO.ite ?_ ?_
      | refine LeO.bind ?_ (fun _ => ?_)
def path_Parent.T5 : Bool × List (List Nat × List Nat) := (true, [([], []), ([], []), ([0, 1], [0, 1]), ([2], [2]), ([], []), ([], []), ([4, 5], [4, 5]), ([6], [6]), ([3, 3, 0, 1, 2, 3], [3]), ([7, 8, 0, 1, 2, 3, 4, 5, 6, 7, 8], [7]), ([9, 0, 1, 2, 3, 4, 5, 6, 7, 8, 9], [])])
def path_Parent.B5 : List Nat := [0, 0, 3, 7, 0, 0, 48, 112, 15, 511, 1023]
theorem path_Parent.tab5 : rtab .any (opsOf Tryd.f43 5) = path_Parent.T5 := by kernel_rfl
theorem path_Parent.bits5 : waitsOk path_Parent.T5.2 path_Parent.B5 = true := by kernel_rfl
set_option maxHeartbeats 8000000 in
set_option maxRecDepth 100000 in
theorem path_Parent.calls (k : Nat) (a0 : ByteArray) (r1 : ByteArray) (r2 : ByteArray) (r3 : Int) (w : World) (hL : Laid w) (h : path_Parent.f k a0 = some (r1, r2, r3)) :
    Calls Tryd.prog 43 #[.string a0] w fun e w' => e = .returned (.tuple #[.string r1, .string r2, .int .i64 r3]) ∧ Below w.heap.size w w' := by
  have HLAID := Aside0.mk hL
  clear hL
  have HB := Aside0.mk (Below.refl w.heap.size w)
  have H : ((path_Split.f k a0).bind fun bt151 => (if bt151.2 = 0 then (if 0 ≤ (wrap64 ((bt151.1.length : Int) - 1)) then (if (wrap64 ((bt151.1.length : Int) - 1)) ≤ (bt151.1.length : Int) then ((strings_Join.f (bt151.1.take ((wrap64 ((bt151.1.length : Int) - 1)) : Int).toNat) (⟨#[47]⟩ : ByteArray)).bind fun t159 => (if (wrap64 ((bt151.1.length : Int) - 1)) < (bt151.1.length : Int) then (some (t159, rdOf ByteArray.empty bt151.1 (wrap64 ((bt151.1.length : Int) - 1)), 0)) else (none))) else (none)) else (none)) else (some ((⟨#[]⟩ : ByteArray), (⟨#[]⟩ : ByteArray), bt151.2)))) = some (r1, r2, r3) := h
  clear h
  replace H := Option.bind_eq_some_iff.mp H
  obtain ⟨⟨t151, t152⟩, A20, H⟩ := H
  replace H : (if t152 = 0 then (if 0 ≤ (wrap64 ((t151.length : Int) - 1)) then (if (wrap64 ((t151.length : Int) - 1)) ≤ (t151.length : Int) then ((strings_Join.f (t151.take ((wrap64 ((t151.length : Int) - 1)) : Int).toNat) (⟨#[47]⟩ : ByteArray)).bind fun t159 => (if (wrap64 ((t151.length : Int) - 1)) < (t151.length : Int) then (some (t159, rdOf ByteArray.empty t151 (wrap64 ((t151.length : Int) - 1)), 0)) else (none))) else (none)) else (none)) else (some ((⟨#[]⟩ : ByteArray), (⟨#[]⟩ : ByteArray), t152))) = some (r1, r2, r3) := H
  have A2 := Aside0.mk A20
  clear A20
  by_cases c3 : t152 = 0
  · rw [if_pos c3] at H
    have c3b0 : (t152 == 0) = true := beq_iff_eq.mpr c3
    have c3b1 : (t152 != 0) = false := bne_eq_false_iff_eq.mpr c3
    clear c3
    obtain ⟨ji4, hji4⟩ : ∃ j_ : Int, (wrap64 ((t151.length : Int) - 1)) = j_ := ⟨_, rfl⟩
    replace H : (if 0 ≤ (ji4) then (if (ji4) ≤ (t151.length : Int) then ((strings_Join.f (t151.take ((ji4) : Int).toNat) (⟨#[47]⟩ : ByteArray)).bind fun t159 => (if (ji4) < (t151.length : Int) then (some (t159, rdOf ByteArray.empty t151 (ji4), 0)) else (none))) else (none)) else (none)) = some (r1, r2, r3) := by first | (rw [hji4] at H; exact H) | (simp only [hji4] at H ⊢; exact H)
    (try rw [hji4] at A2)
    have hji4w : (IntKind.i64.wrap ((t151.length : Int) - 1)) = ji4 := (i64_w _).trans hji4
    by_cases c5 : 0 ≤ (ji4)
    · rw [if_pos c5] at H
      have c5b0 := eq_true c5
      have c5b1 : decide (0 ≤ (ji4)) = true := decide_eq_true c5
      clear c5
      by_cases c6 : (ji4) ≤ (t151.length : Int)
      · rw [if_pos c6] at H
        have c6b0 := eq_true c6
        have c6b1 : decide ((ji4) ≤ (t151.length : Int)) = true := decide_eq_true c6
        clear c6
        obtain ⟨y155, hy155⟩ : ∃ y_ : List ByteArray, y_ = (t151.take ((ji4) : Int).toNat) := ⟨_, rfl⟩
        replace H : ((strings_Join.f y155 (⟨#[47]⟩ : ByteArray)).bind fun t159 => (if (ji4) < (t151.length : Int) then (some (t159, rdOf ByteArray.empty t151 (ji4), 0)) else (none))) = some (r1, r2, r3) := by first | (rw [hy155]; with_reducible exact H) | (have H2_ := (Option.bind_some _ _).symm.trans H; rw [hy155]; with_reducible exact H2_) | (have H2_ := (Option.bind_some _ _).symm.trans H; with_reducible exact H2_) | with_reducible exact H | (rw [hy155]; exact H) | exact H
        have Ny155 := Aside0.mk hy155
        clear hy155
        replace H := Option.bind_eq_some_iff.mp H
        obtain ⟨t159, A70, H⟩ := H
        replace H : (if (ji4) < (t151.length : Int) then (some (t159, rdOf ByteArray.empty t151 (ji4), 0)) else (none)) = some (r1, r2, r3) := H
        have A7 := Aside0.mk A70
        clear A70
        by_cases c8 : (ji4) < (t151.length : Int)
        · rw [if_pos c8] at H
          have c8b0 : decide ((ji4) < (t151.length : Int)) = true := decide_eq_true c8
          clear c8
          simp only [Option.some.injEq, Prod.mk.injEq] at H
          obtain ⟨rfl, rfl, rfl⟩ := H
          go_enter Tryd.func43, Tryd.ntmps43
          try go_wp2_with (first | ((with_reducible refine gate_callee (f := 39) rfl ?_); refine goesL_ (some 9) rfl rfl Tryd.func39 (by kernel_rfl) rfl #[.string a0] rfl (by (try simp only [List.map_toArray, List.map_cons, List.map_nil]); first | done | rfl | (simp only [List.length_drop, List.length_take]; rfl)) ?_; (with_reducible refine (path_Split.calls k a0 t151 t152 _ ?side1 A2.out).mono ?_); (case side1 => first | exact HLAID.out | exact Laid.drewN HLAID.out _ | exact Laid.below HLAID.out (by repeat (first | (with_reducible first | exact HB.out | apply below_alloc | apply pw_below_drewN | apply below_drew1) | exact HB.out))); rintro e w9 ⟨v153, rfl, ho0, hb⟩; refine ⟨_, rfl, ?_⟩; have n0_ := Aside0.mk (Kd.R_lower ho0 (below_size (by repeat (first | (with_reducible first | exact HB.out | apply below_alloc | apply pw_below_drewN | apply below_drew1) | exact HB.out)))); have n1_ := Aside0.mk (below_step (by repeat (first | (with_reducible first | exact HB.out | apply below_alloc | apply pw_below_drewN | apply below_drew1) | exact HB.out)) hb); clear HB; have HO154 := n0_; have HB := n1_; clear n0_ n1_; (try clear hb); (try clear hb2); (try clear hk); (try clear hi); (try clear ho0); obtain ⟨Ao10, co10, eo10⟩ := Kd.R_slice HO154.out; subst eo10))
          have n0_ := Aside0.mk (Kd.R_drew HO154.out)
          have n1_ := Aside0.mk (below_drew1 HB.out)
          clear HO154
          clear HB
          have HO154 := n0_
          have HB := n1_
          clear n0_ n1_
          have q12 : ((ji4) : Int) ≤ ((t151.length : Int) : Int) := of_decide_eq_true (by first | (with_reducible assumption) | assumption)
          obtain ⟨i012, hi012, _, hsz12, _⟩ := info_parts info9
          have hroom12 : t151.length ≤ co10 := (Kd.R_reads' HO154.out).2.1
          have hC12 : Kd.C Kd.string _ Ao10 t151.length t151 := (Kd.R_reads' HO154.out).2.2
          have hcut12 := cut_to (P := Tryd.prog) 45 9 .i64 Tryd.underlying45 hi012 Ao10 t151.length co10 (ji4) (of_decide_eq_true (by first | (with_reducible assumption) | assumption)) q12 hroom12
          have hr12 := Kd.C_take (m := ((ji4) : Int).toNat) hC12 (by omega)
          have hy12 : y155.length = ((ji4) : Int).toNat := (by rw [Ny155.out, List.length_take]; omega)
          rw [← Ny155.out] at hr12
          rw [← hy12] at hcut12
          have HR158 := Aside0.mk hr12
          have HC158 := Aside0.mk (show y155.length ≤ co10 from by omega)
          clear hr12 hC12 hroom12 hi012 hsz12
          have KY12 := Aside0.mk hy12
          clear hy12
          have KL12 := Aside0.mk (show ((ji4) : Int).toNat ≤ t151.length from by omega)
          replace q12 := eq_true q12
          have p160 : 0 ≤ ((ji4) : Int) := of_decide_eq_true (by first | (with_reducible assumption) | assumption)
          have q160 : (ji4) < (t151.length : Int) := of_decide_eq_true (by first | (with_reducible assumption) | assumption)
          obtain ⟨ad160, e160, hx160_0⟩ := Kd.at_string (Kd.R_reads' HO154.out).2.2 (ji4) p160 q160
          cases e160
          replace p160 := eq_true p160
          replace q160 := eq_true q160
          refine start_ (n := 11) (S := fun w' => w'.cell? (ad160.add ((ji4)).toNat) = some (.string (rdOf ByteArray.empty t151 (ji4)))) (ds := []) #[false, false, false, false, false, false, false, false, false, false, false] (by kernel_rfl) rfl rfl (hx160_0) (fun hHeld => ?_); refine with_tabW path_Parent.tab5 path_Parent.bits5 (fun HT_ HW_ => ?_)
          generalize w9.drew = w11 at HO154 HB HR158 hx160_0 hHeld ⊢
          refine pure_ (i := 0) (N := some 18) (v := ?_) (a' := ?_) #[true, false, false, false, false, false, false, false, false, false, false] rfl rfl (any_of HT_.out (by kernel_rfl)) (fun _ _ _ h => h) (Or.inl ⟨by rfl, ?_⟩) ?_ ?_
          rotate_left
          · intro w'
            go_simp
            with_reducible rfl
          rotate_left
          · simp only [Act.put, List.setIfInBounds_toArray, List.set_cons_zero, List.set_cons_succ, i64_w, i32_w]
            rfl
          refine pure_ (i := 1) (N := some 19) (v := ?_) (a' := ?_) #[true, true, false, false, false, false, false, false, false, false, false] rfl rfl (any_of HT_.out (by kernel_rfl)) (fun _ _ _ h => h) (Or.inl ⟨by rfl, ?_⟩) ?_ ?_
          rotate_left
          · intro w'
            go_simp
            with_reducible rfl
          rotate_left
          · simp only [Act.put, List.setIfInBounds_toArray, List.set_cons_zero, List.set_cons_succ, i64_w, i32_w]
            rfl
          refine pure_ (i := 2) (N := some 20) (v := ?_) (a' := ?_) #[true, true, true, false, false, false, false, false, false, false, false] rfl rfl (any_of HT_.out (by kernel_rfl)) (fun _ _ _ h => h) (Or.inl ⟨by rfl, ?_⟩) ?_ ?_
          rotate_left
          · intro w'
            go_simp
            with_reducible rfl
          rotate_left
          · simp only [Act.put, List.setIfInBounds_toArray, List.set_cons_zero, List.set_cons_succ, i64_w, i32_w]
            rfl
          refine pure_ (i := 4) (N := some 22) (v := ?_) (a' := ?_) #[true, true, true, false, true, false, false, false, false, false, false] rfl rfl (any_of HT_.out (by kernel_rfl)) (fun _ _ _ h => h) (Or.inl ⟨by rfl, ?_⟩) ?_ ?_
          rotate_left
          · intro w'
            go_simp
            with_reducible rfl
          rotate_left
          · simp only [Act.put, List.setIfInBounds_toArray, List.set_cons_zero, List.set_cons_succ, i64_w, i32_w]
            rfl
          refine pure_ (i := 5) (N := some 23) (v := ?_) (a' := ?_) #[true, true, true, false, true, true, false, false, false, false, false] rfl rfl (any_of HT_.out (by kernel_rfl)) (fun _ _ _ h => h) (Or.inl ⟨by rfl, ?_⟩) ?_ ?_
          rotate_left
          · intro w'
            go_simp
            with_reducible rfl
          rotate_left
          · simp only [Act.put, List.setIfInBounds_toArray, List.set_cons_zero, List.set_cons_succ, i64_w, i32_w]
            rfl
          refine pure_ (i := 6) (N := some 24) (v := ?_) (a' := ?_) #[true, true, true, false, true, true, true, false, false, false, false] rfl rfl (any_of HT_.out (by kernel_rfl)) (fun _ _ _ h => h) (Or.inl ⟨by rfl, ?_⟩) ?_ ?_
          rotate_left
          · intro w'
            go_simp
            with_reducible rfl
          rotate_left
          · simp only [Act.put, List.setIfInBounds_toArray, List.set_cons_zero, List.set_cons_succ, i64_w, i32_w]
            rfl
          refine take_ (i := 7) (N := some 25) (v := ?_) (a' := ?_) #[true, true, true, false, true, true, true, true, false, false, false] rfl rfl (take_ofW HT_.out HW_.out (by kernel_rfl)) (fun _ _ _ h => h) (Or.inl ⟨by rfl, ?_⟩) hHeld ?_ ?_
          rotate_left
          · intro w' s0
            go_simp
            with_reducible rfl
          rotate_left
          · simp only [Act.put, List.setIfInBounds_toArray, List.set_cons_zero, List.set_cons_succ, i64_w, i32_w]
            rfl
          refine one_ (i := 3) (N := some 21) #[true, true, true, true, true, true, true, true, false, false, false] rfl rfl (one_of HT_.out (by kernel_rfl)) (by decide) (fun K hK => ?_)
          refine goes_ Tryd.func60 (by kernel_rfl) rfl #[.slice (some ad160) y155.length co10, .string (⟨#[47]⟩ : ByteArray)] (by rfl) rfl rfl (by (try simp only [List.map_toArray, List.map_cons, List.map_nil]); first | done | rfl | (simp only [List.length_drop, List.length_take]; rfl)) ?_
          with_reducible refine (strings_Join.calls _ _ y155 (⟨#[47]⟩ : ByteArray) t159 _ ?side1 ?side2 A7.out).mono ?_
          (case side1 => repeat (first | exact (by repeat (first | (with_reducible exact HR158.out) | (with_reducible refine Kd.C_alloc ?_ _) | (with_reducible refine Kd.C_drewN ?_ _) | (with_reducible refine Kd.C_drew ?_) | exact HR158.out)) | (with_reducible refine Kd.C_alloc ?_ _) | (with_reducible refine Kd.C_drewN ?_ _) | (with_reducible refine Kd.C_drew ?_)))
          (case side2 => exact HC158.out)
          rintro e w13 ⟨rfl, hb⟩
          have HS0_ := (hb.cell (World.block_lt_of_cell? _ _ (hHeld))).trans (hHeld)
          refine ⟨_, rfl, ?_⟩
          have n0_ := Aside0.mk (Kd.R_below (by (with_reducible repeat (first | apply Kd.R_alloc | apply Kd.R_drewN | apply Kd.R_drew)); exact HO154.out) hb)
          have n1_ := Aside0.mk (Kd.C_below (by repeat (first | (with_reducible exact HR158.out) | (with_reducible refine Kd.C_alloc ?_ _) | (with_reducible refine Kd.C_drewN ?_ _) | (with_reducible refine Kd.C_drew ?_) | exact HR158.out)) hb)
          have n2_ := Aside0.mk (below_step (by repeat (first | (with_reducible first | exact HB.out | apply below_alloc | apply pw_below_drewN | apply below_drew1) | exact HB.out)) hb)
          clear HO154
          clear HR158
          clear HB
          have HO154 := n0_
          have HR158 := n1_
          have HB := n2_
          clear n0_ n1_ n2_
          (try clear hb)
          (try clear hb2)
          (try clear hk)
          (try clear hi)
          refine hK.out _ _ (HS0_) (fun hHeld => ?_)
          clear hK K
          refine norm_ (a' := ?_) ?_ ?_
          rotate_left
          · show Act.put _ (some 21) _ = _
            simp only [Act.put, List.setIfInBounds_toArray, List.set_cons_zero, List.set_cons_succ, i64_w, i32_w]
            rfl
          refine pure_ (i := 8) (N := some 2) (v := ?_) (a' := ?_) #[true, true, true, true, true, true, true, true, true, false, false] rfl rfl (any_of HT_.out (by kernel_rfl)) (fun _ _ _ h => h) (Or.inl ⟨by rfl, ?_⟩) ?_ ?_
          rotate_left
          · intro w'
            go_simp
            with_reducible rfl
          rotate_left
          · simp only [Act.put, List.setIfInBounds_toArray, List.set_cons_zero, List.set_cons_succ, i64_w, i32_w]
            rfl
          refine pure_ (i := 9) (N := some 3) (v := ?_) (a' := ?_) #[true, true, true, true, true, true, true, true, true, true, false] rfl rfl (any_of HT_.out (by kernel_rfl)) (fun _ _ _ h => h) (Or.inl ⟨by rfl, ?_⟩) ?_ ?_
          rotate_left
          · intro w'
            go_simp
            with_reducible rfl
          rotate_left
          · simp only [Act.put, List.setIfInBounds_toArray, List.set_cons_zero, List.set_cons_succ, i64_w, i32_w]
            rfl
          refine pure_ (i := 10) (N := some 4) (v := ?_) (a' := ?_) #[true, true, true, true, true, true, true, true, true, true, true] rfl rfl (any_of HT_.out (by kernel_rfl)) (fun _ _ _ h => h) (Or.inl ⟨by rfl, ?_⟩) ?_ ?_
          rotate_left
          · intro w'
            go_simp
            with_reducible rfl
          rotate_left
          · simp only [Act.put, List.setIfInBounds_toArray, List.set_cons_zero, List.set_cons_succ, i64_w, i32_w]
            rfl
          refine done_ (done_of HT_.out (by kernel_rfl)) ?_
          try go_wp2
          go_ret3
          exact ⟨by first | rfl | (simp [errW_none, errW_some] <;> rfl) | (simp only [← hji4]; first | rfl | (simp [errW_none, errW_some] <;> rfl)) | (simp [*, errW_none, errW_some] <;> rfl), by repeat (first | (with_reducible first | exact HB.out | apply below_alloc | apply pw_below_drewN | apply below_drew1) | exact HB.out)⟩
        · rw [if_neg c8] at H
          exact absurd H (by simp)
      · rw [if_neg c6] at H
        exact absurd H (by simp)
    · rw [if_neg c5] at H
      exact absurd H (by simp)
  · rw [if_neg c3] at H
    have c3b0 : (t152 == 0) = false := beq_eq_false_iff_ne.mpr c3
    have c3b1 : (t152 != 0) = true := bne_iff_ne.mpr c3
    simp only [Option.some.injEq, Prod.mk.injEq] at H
    obtain ⟨rfl, rfl, rfl⟩ := H
    go_enter Tryd.func43, Tryd.ntmps43
    go_wp2_with (first | ((with_reducible refine gate_callee (f := 39) rfl ?_); refine goesL_ (some 9) rfl rfl Tryd.func39 (by kernel_rfl) rfl #[.string a0] rfl (by (try simp only [List.map_toArray, List.map_cons, List.map_nil]); first | done | rfl | (simp only [List.length_drop, List.length_take]; rfl)) ?_; (with_reducible refine (path_Split.calls k a0 t151 t152 _ ?side1 A2.out).mono ?_); (case side1 => first | exact HLAID.out | exact Laid.drewN HLAID.out _ | exact Laid.below HLAID.out (by repeat (first | (with_reducible first | exact HB.out | apply below_alloc | apply pw_below_drewN | apply below_drew1) | exact HB.out))); rintro e w14 ⟨v153, rfl, ho0, hb⟩; refine ⟨_, rfl, ?_⟩; have n0_ := Aside0.mk (Kd.R_lower ho0 (below_size (by repeat (first | (with_reducible first | exact HB.out | apply below_alloc | apply pw_below_drewN | apply below_drew1) | exact HB.out)))); have n1_ := Aside0.mk (below_step (by repeat (first | (with_reducible first | exact HB.out | apply below_alloc | apply pw_below_drewN | apply below_drew1) | exact HB.out)) hb); clear HB; have HO154 := n0_; have HB := n1_; clear n0_ n1_; (try clear hb); (try clear hb2); (try clear hk); (try clear hi); (try clear ho0)))
    go_ret3
    exact ⟨by first | rfl | (simp [errW_none, errW_some] <;> rfl) | (simp [*, errW_none, errW_some] <;> rfl), by repeat (first | (with_reducible first | exact HB.out | apply below_alloc | apply pw_below_drewN | apply below_drew1) | exact HB.out)⟩

/-! ### garretref17_Parent: function 44 -/
def garretref17_Parent.f (k : Nat) (a0 : ByteArray) : Option (ByteArray × ByteArray × Int) := (garretref17_Split.f k a0).bind fun bt161 => (if bt161.2 = 0 then (if 0 ≤ (wrap64 ((bt161.1.length : Int) - 1)) then (if (wrap64 ((bt161.1.length : Int) - 1)) ≤ (bt161.1.length : Int) then ((garretref17_Made.f k (bt161.1.take ((wrap64 ((bt161.1.length : Int) - 1)) : Int).toNat)).bind fun t169 => (if (wrap64 ((bt161.1.length : Int) - 1)) < (bt161.1.length : Int) then (some (t169, rdOf ByteArray.empty bt161.1 (wrap64 ((bt161.1.length : Int) - 1)), 0)) else (none))) else (none)) else (none)) else (some ((⟨#[]⟩ : ByteArray), (⟨#[]⟩ : ByteArray), bt161.2)))
theorem garretref17_Parent.mono : ∀ a0 k, LeO (garretref17_Parent.f k a0) (garretref17_Parent.f (k + 1) a0) := by
  intro a0 k
  unfold garretref17_Parent.f
  repeat' first
      | (with_reducible exact garretref17_Made.mono _ _)
      | (with_reducible exact garretref17_Split.mono _ _)
      | (with_reducible exact LeO.refl _)
      | (with_reducible exact LeO.none _)
      | (with_reducible refine LeO.ite ?_ ?_)
      | (with_reducible refine LeO.bind ?_ (fun _ => ?_))
      | exact garretref17_Made.mono _ _
      | exact garretref17_Split.mono _ _
      | exact LeO.none _
      | refine LeO.ite ?_ ?_
      | refine LeO.bind ?_ (fun _ => ?_)
set_option maxHeartbeats 8000000 in
set_option maxRecDepth 100000 in
theorem garretref17_Parent.calls (k : Nat) (a0 : ByteArray) (r1 : ByteArray) (r2 : ByteArray) (r3 : Int) (w : World) (h : garretref17_Parent.f k a0 = some (r1, r2, r3)) :
    Calls Tryd.prog 44 #[.string a0] w fun e w' => e = .returned (.tuple #[.string r1, .string r2, .int .i64 r3]) ∧ Below w.heap.size w w' := by
  have HB := Aside0.mk (Below.refl w.heap.size w)
  have H : ((garretref17_Split.f k a0).bind fun bt161 => (if bt161.2 = 0 then (if 0 ≤ (wrap64 ((bt161.1.length : Int) - 1)) then (if (wrap64 ((bt161.1.length : Int) - 1)) ≤ (bt161.1.length : Int) then ((garretref17_Made.f k (bt161.1.take ((wrap64 ((bt161.1.length : Int) - 1)) : Int).toNat)).bind fun t169 => (if (wrap64 ((bt161.1.length : Int) - 1)) < (bt161.1.length : Int) then (some (t169, rdOf ByteArray.empty bt161.1 (wrap64 ((bt161.1.length : Int) - 1)), 0)) else (none))) else (none)) else (none)) else (some ((⟨#[]⟩ : ByteArray), (⟨#[]⟩ : ByteArray), bt161.2)))) = some (r1, r2, r3) := h
  clear h
  replace H := Option.bind_eq_some_iff.mp H
  obtain ⟨⟨t161, t162⟩, A20, H⟩ := H
  replace H : (if t162 = 0 then (if 0 ≤ (wrap64 ((t161.length : Int) - 1)) then (if (wrap64 ((t161.length : Int) - 1)) ≤ (t161.length : Int) then ((garretref17_Made.f k (t161.take ((wrap64 ((t161.length : Int) - 1)) : Int).toNat)).bind fun t169 => (if (wrap64 ((t161.length : Int) - 1)) < (t161.length : Int) then (some (t169, rdOf ByteArray.empty t161 (wrap64 ((t161.length : Int) - 1)), 0)) else (none))) else (none)) else (none)) else (some ((⟨#[]⟩ : ByteArray), (⟨#[]⟩ : ByteArray), t162))) = some (r1, r2, r3) := H
  have A2 := Aside0.mk A20
  clear A20
  by_cases c3 : t162 = 0
  · rw [if_pos c3] at H
    have c3b0 : (t162 == 0) = true := beq_iff_eq.mpr c3
    have c3b1 : (t162 != 0) = false := bne_eq_false_iff_eq.mpr c3
    clear c3
    obtain ⟨ji4, hji4⟩ : ∃ j_ : Int, (wrap64 ((t161.length : Int) - 1)) = j_ := ⟨_, rfl⟩
    replace H : (if 0 ≤ (ji4) then (if (ji4) ≤ (t161.length : Int) then ((garretref17_Made.f k (t161.take ((ji4) : Int).toNat)).bind fun t169 => (if (ji4) < (t161.length : Int) then (some (t169, rdOf ByteArray.empty t161 (ji4), 0)) else (none))) else (none)) else (none)) = some (r1, r2, r3) := by first | (rw [hji4] at H; exact H) | (simp only [hji4] at H ⊢; exact H)
    (try rw [hji4] at A2)
    have hji4w : (IntKind.i64.wrap ((t161.length : Int) - 1)) = ji4 := (i64_w _).trans hji4
    by_cases c5 : 0 ≤ (ji4)
    · rw [if_pos c5] at H
      have c5b0 := eq_true c5
      have c5b1 : decide (0 ≤ (ji4)) = true := decide_eq_true c5
      clear c5
      by_cases c6 : (ji4) ≤ (t161.length : Int)
      · rw [if_pos c6] at H
        have c6b0 := eq_true c6
        have c6b1 : decide ((ji4) ≤ (t161.length : Int)) = true := decide_eq_true c6
        clear c6
        obtain ⟨y165, hy165⟩ : ∃ y_ : List ByteArray, y_ = (t161.take ((ji4) : Int).toNat) := ⟨_, rfl⟩
        replace H : ((garretref17_Made.f k y165).bind fun t169 => (if (ji4) < (t161.length : Int) then (some (t169, rdOf ByteArray.empty t161 (ji4), 0)) else (none))) = some (r1, r2, r3) := by first | (rw [hy165]; with_reducible exact H) | (have H2_ := (Option.bind_some _ _).symm.trans H; rw [hy165]; with_reducible exact H2_) | (have H2_ := (Option.bind_some _ _).symm.trans H; with_reducible exact H2_) | with_reducible exact H | (rw [hy165]; exact H) | exact H
        have Ny165 := Aside0.mk hy165
        clear hy165
        replace H := Option.bind_eq_some_iff.mp H
        obtain ⟨t169, A70, H⟩ := H
        replace H : (if (ji4) < (t161.length : Int) then (some (t169, rdOf ByteArray.empty t161 (ji4), 0)) else (none)) = some (r1, r2, r3) := H
        have A7 := Aside0.mk A70
        clear A70
        by_cases c8 : (ji4) < (t161.length : Int)
        · rw [if_pos c8] at H
          have c8b0 : decide ((ji4) < (t161.length : Int)) = true := decide_eq_true c8
          clear c8
          simp only [Option.some.injEq, Prod.mk.injEq] at H
          obtain ⟨rfl, rfl, rfl⟩ := H
          go_enter Tryd.func44, Tryd.ntmps44
          go_wp2_with (first | (go_at_call 40; (with_reducible refine (garretref17_Split.calls k a0 t161 t162 _ A2.out).mono ?_); rintro e w9 ⟨v163, rfl, ho0, hb⟩; have n0_ := Aside0.mk (Kd.R_lower ho0 (below_size (by repeat (first | (with_reducible first | exact HB.out | apply below_alloc | apply pw_below_drewN | apply below_drew1) | exact HB.out)))); have n1_ := Aside0.mk (below_step (by repeat (first | (with_reducible first | exact HB.out | apply below_alloc | apply pw_below_drewN | apply below_drew1) | exact HB.out)) hb); clear HB; have HO164 := n0_; have HB := n1_; clear n0_ n1_; (try clear hb); (try clear hb2); (try clear hk); (try clear hi); (try clear ho0); obtain ⟨Ao10, co10, eo10⟩ := Kd.R_slice HO164.out; subst eo10; have q11 : ((ji4) : Int) ≤ ((t161.length : Int) : Int) := of_decide_eq_true (by first | (with_reducible assumption) | assumption); obtain ⟨i011, hi011, _, hsz11, _⟩ := info_parts info9; have hroom11 : t161.length ≤ co10 := (Kd.R_reads' HO164.out).2.1; have hC11 : Kd.C Kd.string _ Ao10 t161.length t161 := (Kd.R_reads' HO164.out).2.2; have hcut11 := cut_to (P := Tryd.prog) 45 9 .i64 Tryd.underlying45 hi011 Ao10 t161.length co10 (ji4) (of_decide_eq_true (by first | (with_reducible assumption) | assumption)) q11 hroom11; have hr11 := Kd.C_take (m := ((ji4) : Int).toNat) hC11 (by omega); have hy11 : y165.length = ((ji4) : Int).toNat := (by rw [Ny165.out, List.length_take]; omega); rw [← Ny165.out] at hr11; rw [← hy11] at hcut11; have HR168 := Aside0.mk hr11; have HC168 := Aside0.mk (show y165.length ≤ co10 from by omega); clear hr11 hC11 hroom11 hi011 hsz11; have KY11 := Aside0.mk hy11; clear hy11; have KL11 := Aside0.mk (show ((ji4) : Int).toNat ≤ t161.length from by omega); replace q11 := eq_true q11) | (go_at_call 62; (with_reducible refine (garretref17_Made.calls k _ _ y165 t169 _ ?side1 ?side2 A7.out).mono ?_); (case side1 => repeat (first | exact (by repeat (first | (with_reducible exact HR168.out) | (with_reducible refine Kd.C_alloc ?_ _) | (with_reducible refine Kd.C_drewN ?_ _) | (with_reducible refine Kd.C_drew ?_) | exact HR168.out)) | (with_reducible refine Kd.C_alloc ?_ _) | (with_reducible refine Kd.C_drewN ?_ _) | (with_reducible refine Kd.C_drew ?_))); (case side2 => exact HC168.out); rintro e w' ⟨rfl, ⟨nd, rfl⟩⟩; (try first | exact ⟨rfl, _, World.drewN_drewN _ _ _⟩ | exact ⟨rfl, _, Eq.trans (World.drewN_drewN _ _ _) (congrArg (World.drewN _) (Nat.add_assoc _ _ _))⟩); have p170 : 0 ≤ ((ji4) : Int) := of_decide_eq_true (by first | (with_reducible assumption) | assumption); have q170 : (ji4) < (t161.length : Int) := of_decide_eq_true (by first | (with_reducible assumption) | assumption); obtain ⟨ad170, e170, hx170_0⟩ := Kd.at_string (Kd.R_reads' HO164.out).2.2 (ji4) p170 q170; cases e170; replace p170 := eq_true p170; replace q170 := eq_true q170))
          repeat (go_quiet (first | (go_at_call 40; (with_reducible refine (garretref17_Split.calls k a0 t161 t162 _ A2.out).mono ?_); rintro e w9 ⟨v163, rfl, ho0, hb⟩; have n0_ := Aside0.mk (Kd.R_lower ho0 (below_size (by repeat (first | (with_reducible first | exact HB.out | apply below_alloc | apply pw_below_drewN | apply below_drew1) | exact HB.out)))); have n1_ := Aside0.mk (below_step (by repeat (first | (with_reducible first | exact HB.out | apply below_alloc | apply pw_below_drewN | apply below_drew1) | exact HB.out)) hb); clear HB; have HO164 := n0_; have HB := n1_; clear n0_ n1_; (try clear hb); (try clear hb2); (try clear hk); (try clear hi); (try clear ho0); obtain ⟨Ao10, co10, eo10⟩ := Kd.R_slice HO164.out; subst eo10; have q11 : ((ji4) : Int) ≤ ((t161.length : Int) : Int) := of_decide_eq_true (by first | (with_reducible assumption) | assumption); obtain ⟨i011, hi011, _, hsz11, _⟩ := info_parts info9; have hroom11 : t161.length ≤ co10 := (Kd.R_reads' HO164.out).2.1; have hC11 : Kd.C Kd.string _ Ao10 t161.length t161 := (Kd.R_reads' HO164.out).2.2; have hcut11 := cut_to (P := Tryd.prog) 45 9 .i64 Tryd.underlying45 hi011 Ao10 t161.length co10 (ji4) (of_decide_eq_true (by first | (with_reducible assumption) | assumption)) q11 hroom11; have hr11 := Kd.C_take (m := ((ji4) : Int).toNat) hC11 (by omega); have hy11 : y165.length = ((ji4) : Int).toNat := (by rw [Ny165.out, List.length_take]; omega); rw [← Ny165.out] at hr11; rw [← hy11] at hcut11; have HR168 := Aside0.mk hr11; have HC168 := Aside0.mk (show y165.length ≤ co10 from by omega); clear hr11 hC11 hroom11 hi011 hsz11; have KY11 := Aside0.mk hy11; clear hy11; have KL11 := Aside0.mk (show ((ji4) : Int).toNat ≤ t161.length from by omega); replace q11 := eq_true q11) | (go_at_call 62; (with_reducible refine (garretref17_Made.calls k _ _ y165 t169 _ ?side1 ?side2 A7.out).mono ?_); (case side1 => repeat (first | exact (by repeat (first | (with_reducible exact HR168.out) | (with_reducible refine Kd.C_alloc ?_ _) | (with_reducible refine Kd.C_drewN ?_ _) | (with_reducible refine Kd.C_drew ?_) | exact HR168.out)) | (with_reducible refine Kd.C_alloc ?_ _) | (with_reducible refine Kd.C_drewN ?_ _) | (with_reducible refine Kd.C_drew ?_))); (case side2 => exact HC168.out); rintro e w' ⟨rfl, ⟨nd, rfl⟩⟩; (try first | exact ⟨rfl, _, World.drewN_drewN _ _ _⟩ | exact ⟨rfl, _, Eq.trans (World.drewN_drewN _ _ _) (congrArg (World.drewN _) (Nat.add_assoc _ _ _))⟩); have p170 : 0 ≤ ((ji4) : Int) := of_decide_eq_true (by first | (with_reducible assumption) | assumption); have q170 : (ji4) < (t161.length : Int) := of_decide_eq_true (by first | (with_reducible assumption) | assumption); obtain ⟨ad170, e170, hx170_0⟩ := Kd.at_string (Kd.R_reads' HO164.out).2.2 (ji4) p170 q170; cases e170; replace p170 := eq_true p170; replace q170 := eq_true q170)); try go_wp2_with (first | (go_at_call 40; (with_reducible refine (garretref17_Split.calls k a0 t161 t162 _ A2.out).mono ?_); rintro e w9 ⟨v163, rfl, ho0, hb⟩; have n0_ := Aside0.mk (Kd.R_lower ho0 (below_size (by repeat (first | (with_reducible first | exact HB.out | apply below_alloc | apply pw_below_drewN | apply below_drew1) | exact HB.out)))); have n1_ := Aside0.mk (below_step (by repeat (first | (with_reducible first | exact HB.out | apply below_alloc | apply pw_below_drewN | apply below_drew1) | exact HB.out)) hb); clear HB; have HO164 := n0_; have HB := n1_; clear n0_ n1_; (try clear hb); (try clear hb2); (try clear hk); (try clear hi); (try clear ho0); obtain ⟨Ao10, co10, eo10⟩ := Kd.R_slice HO164.out; subst eo10; have q11 : ((ji4) : Int) ≤ ((t161.length : Int) : Int) := of_decide_eq_true (by first | (with_reducible assumption) | assumption); obtain ⟨i011, hi011, _, hsz11, _⟩ := info_parts info9; have hroom11 : t161.length ≤ co10 := (Kd.R_reads' HO164.out).2.1; have hC11 : Kd.C Kd.string _ Ao10 t161.length t161 := (Kd.R_reads' HO164.out).2.2; have hcut11 := cut_to (P := Tryd.prog) 45 9 .i64 Tryd.underlying45 hi011 Ao10 t161.length co10 (ji4) (of_decide_eq_true (by first | (with_reducible assumption) | assumption)) q11 hroom11; have hr11 := Kd.C_take (m := ((ji4) : Int).toNat) hC11 (by omega); have hy11 : y165.length = ((ji4) : Int).toNat := (by rw [Ny165.out, List.length_take]; omega); rw [← Ny165.out] at hr11; rw [← hy11] at hcut11; have HR168 := Aside0.mk hr11; have HC168 := Aside0.mk (show y165.length ≤ co10 from by omega); clear hr11 hC11 hroom11 hi011 hsz11; have KY11 := Aside0.mk hy11; clear hy11; have KL11 := Aside0.mk (show ((ji4) : Int).toNat ≤ t161.length from by omega); replace q11 := eq_true q11) | (go_at_call 62; (with_reducible refine (garretref17_Made.calls k _ _ y165 t169 _ ?side1 ?side2 A7.out).mono ?_); (case side1 => repeat (first | exact (by repeat (first | (with_reducible exact HR168.out) | (with_reducible refine Kd.C_alloc ?_ _) | (with_reducible refine Kd.C_drewN ?_ _) | (with_reducible refine Kd.C_drew ?_) | exact HR168.out)) | (with_reducible refine Kd.C_alloc ?_ _) | (with_reducible refine Kd.C_drewN ?_ _) | (with_reducible refine Kd.C_drew ?_))); (case side2 => exact HC168.out); rintro e w' ⟨rfl, ⟨nd, rfl⟩⟩; (try first | exact ⟨rfl, _, World.drewN_drewN _ _ _⟩ | exact ⟨rfl, _, Eq.trans (World.drewN_drewN _ _ _) (congrArg (World.drewN _) (Nat.add_assoc _ _ _))⟩); have p170 : 0 ≤ ((ji4) : Int) := of_decide_eq_true (by first | (with_reducible assumption) | assumption); have q170 : (ji4) < (t161.length : Int) := of_decide_eq_true (by first | (with_reducible assumption) | assumption); obtain ⟨ad170, e170, hx170_0⟩ := Kd.at_string (Kd.R_reads' HO164.out).2.2 (ji4) p170 q170; cases e170; replace p170 := eq_true p170; replace q170 := eq_true q170)))
          go_ret3
          exact ⟨by first | rfl | (simp [errW_none, errW_some] <;> rfl) | (simp only [← hji4]; first | rfl | (simp [errW_none, errW_some] <;> rfl)) | (simp [*, errW_none, errW_some] <;> rfl), by repeat (first | (with_reducible first | exact HB.out | apply below_alloc | apply pw_below_drewN | apply below_drew1) | exact HB.out)⟩
        · rw [if_neg c8] at H
          exact absurd H (by simp)
      · rw [if_neg c6] at H
        exact absurd H (by simp)
    · rw [if_neg c5] at H
      exact absurd H (by simp)
  · rw [if_neg c3] at H
    have c3b0 : (t162 == 0) = false := beq_eq_false_iff_ne.mpr c3
    have c3b1 : (t162 != 0) = true := bne_iff_ne.mpr c3
    simp only [Option.some.injEq, Prod.mk.injEq] at H
    obtain ⟨rfl, rfl, rfl⟩ := H
    go_enter Tryd.func44, Tryd.ntmps44
    go_wp2_with (first | (go_at_call 40; (with_reducible refine (garretref17_Split.calls k a0 t161 t162 _ A2.out).mono ?_); rintro e w12 ⟨v163, rfl, ho0, hb⟩; have n0_ := Aside0.mk (Kd.R_lower ho0 (below_size (by repeat (first | (with_reducible first | exact HB.out | apply below_alloc | apply pw_below_drewN | apply below_drew1) | exact HB.out)))); have n1_ := Aside0.mk (below_step (by repeat (first | (with_reducible first | exact HB.out | apply below_alloc | apply pw_below_drewN | apply below_drew1) | exact HB.out)) hb); clear HB; have HO164 := n0_; have HB := n1_; clear n0_ n1_; (try clear hb); (try clear hb2); (try clear hk); (try clear hi); (try clear ho0)))
    repeat (go_quiet (first | (go_at_call 40; (with_reducible refine (garretref17_Split.calls k a0 t161 t162 _ A2.out).mono ?_); rintro e w12 ⟨v163, rfl, ho0, hb⟩; have n0_ := Aside0.mk (Kd.R_lower ho0 (below_size (by repeat (first | (with_reducible first | exact HB.out | apply below_alloc | apply pw_below_drewN | apply below_drew1) | exact HB.out)))); have n1_ := Aside0.mk (below_step (by repeat (first | (with_reducible first | exact HB.out | apply below_alloc | apply pw_below_drewN | apply below_drew1) | exact HB.out)) hb); clear HB; have HO164 := n0_; have HB := n1_; clear n0_ n1_; (try clear hb); (try clear hb2); (try clear hk); (try clear hi); (try clear ho0))); try go_wp2_with (first | (go_at_call 40; (with_reducible refine (garretref17_Split.calls k a0 t161 t162 _ A2.out).mono ?_); rintro e w12 ⟨v163, rfl, ho0, hb⟩; have n0_ := Aside0.mk (Kd.R_lower ho0 (below_size (by repeat (first | (with_reducible first | exact HB.out | apply below_alloc | apply pw_below_drewN | apply below_drew1) | exact HB.out)))); have n1_ := Aside0.mk (below_step (by repeat (first | (with_reducible first | exact HB.out | apply below_alloc | apply pw_below_drewN | apply below_drew1) | exact HB.out)) hb); clear HB; have HO164 := n0_; have HB := n1_; clear n0_ n1_; (try clear hb); (try clear hb2); (try clear hk); (try clear hi); (try clear ho0))))
    go_ret3
    exact ⟨by first | rfl | (simp [errW_none, errW_some] <;> rfl) | (simp [*, errW_none, errW_some] <;> rfl), by repeat (first | (with_reducible first | exact HB.out | apply below_alloc | apply pw_below_drewN | apply below_drew1) | exact HB.out)⟩

/-! ### garretlaw17_PathSplits: function 10, by hand -/
def garretlaw17_PathSplits.K : Nat := 1000001
/-- Both answers are told, and the same. -/
def garretlaw17_PathSplits.Good (a0 : ByteArray) (l1 : List ByteArray) (r1 : List ByteArray) (r2 : Int) (j1 : ByteArray) (j2 : Int) (p1 p2 : ByteArray) (p3 : Int) (nb : Bool) (z : List ByteArray) : Prop :=
  path_Split.f garretlaw17_PathSplits.K a0 = some (r1, r2) ∧ garretref17_Split.f garretlaw17_PathSplits.K a0 = some (r1, r2) ∧ path_Join.f garretlaw17_PathSplits.K l1 = some (j1, j2) ∧ garretref17_Join.f garretlaw17_PathSplits.K l1 = some (j1, j2) ∧ path_Parent.f garretlaw17_PathSplits.K a0 = some (p1, p2, p3) ∧ garretref17_Parent.f garretlaw17_PathSplits.K a0 = some (p1, p2, p3) ∧ path_IsName.f garretlaw17_PathSplits.K a0 = some nb ∧ garretref17_IsName.f garretlaw17_PathSplits.K a0 = some nb ∧ garretbook_SameTexts.f garretlaw17_PathSplits.K r1 r1 = some true ∧ garretbook_SameTexts.f garretlaw17_PathSplits.K l1 l1 = some true ∧ garretbook_SpoilTexts.f garretlaw17_PathSplits.K r1 = some z
def garretlaw17_PathSplits.All (a0 : ByteArray) (l1 : List ByteArray) : Prop := garretlaw17_works.f 10 = some true ∧ (a0.size ≤ 100000 → l1.length ≤ 5000 → ∃ r1 r2 j1 j2 p1 p2 p3 nb z, garretlaw17_PathSplits.Good a0 l1 r1 r2 j1 j2 p1 p2 p3 nb z)
open Classical in
noncomputable def garretlaw17_PathSplits.f (a0 : ByteArray) (l1 : List ByteArray) : Option Bool := if garretlaw17_PathSplits.All a0 l1 then some true else none
theorem garretlaw17_PathSplits.reads_front {w : World} {A : Option Addr} {P : List ByteArray} {y : ByteArray} (h : ReadsOf Value.string (⟨#[]⟩ : ByteArray) w A (P.length + 1) (P ++ [y])) : ReadsOf Value.string (⟨#[]⟩ : ByteArray) w A P.length P := by
  refine ⟨rfl, by have := h.2.1; omega, fun hp => ?_⟩
  obtain ⟨ad, e, hc⟩ := h.2.2 (by omega)
  refine ⟨ad, e, fun j hj => ?_⟩
  rw [hc j (by omega), List.getD_eq_getElem?_getD, List.getElem?_append_left hj, ← List.getD_eq_getElem?_getD]
theorem garretlaw17_PathSplits.front_C {w : World} {A : Option Addr} {P : List ByteArray} {y : ByteArray} (h : ReadsOf Value.string (⟨#[]⟩ : ByteArray) w A (P.length + 1) (P ++ [y])) : Kd.C Kd.string w A P.length P := Kd.C_of_reads (enc := Value.string) (d := (⟨#[]⟩ : ByteArray)) (h1 := fun _ => rfl) (garretlaw17_PathSplits.reads_front h)
theorem garretlaw17_PathSplits.R_C {w : World} {base : Nat} {ok : Nat → Prop} {A : Option Addr} {n c : Nat} {P : List ByteArray} (h : Kd.R Kd.string 9 w base ok (.slice A n c) P) : Kd.C Kd.string w A P.length P := (Kd.R_reads' h).2.2
set_option maxHeartbeats 4000000 in
set_option maxRecDepth 100000 in
theorem garretlaw17_PathSplits.calls (a0 : ByteArray) (A1 : Option Addr) (c1 : Nat) (l1 : List ByteArray) (r : Bool) (w : World) (hr1 : Kd.C Kd.string w A1 l1.length l1) (hc1 : l1.length ≤ c1) (hL : Laid w) (h : garretlaw17_PathSplits.f a0 l1 = some r) :
    Calls Tryd.prog 10 #[.string a0, .slice A1 l1.length c1] w fun e w' => e = .returned (.bool r) ∧ Below w.heap.size w w' := by
  unfold garretlaw17_PathSplits.f at h
  by_cases hq : garretlaw17_PathSplits.All a0 l1
  · rw [if_pos hq] at h
    obtain rfl := Option.some.inj h
    obtain ⟨hw, hg⟩ := hq
    have HWK := Aside0.mk hw
    have HLAID := Aside0.mk hL
    have HB : Aside0 (Below w.heap.size w w) := ⟨Below.refl _ _⟩
    have HC1 := Aside0.mk hr1
    have HCAP := Aside0.mk hc1
    clear h hw hr1 hc1 hL
    by_cases h1 : 100000 < a0.size
    · have d1 : decide (100000 < (a0.size : Int)) = true := decide_eq_true (by omega)
      clear hg
      go_enter Tryd.func10, Tryd.ntmps10
      go_wp2_with (first | (go_at_call 19; (with_reducible refine (garretlaw17_works.calls 10 true _ (Laid.below HLAID.out HB.out) HWK.out).mono ?_); rintro e wn_ ⟨rfl, hb⟩; have n0_ := Aside0.mk (below_step HB.out hb); clear HB hb; have HB := n0_; clear n0_))
      go_ret
      exact ⟨rfl, HB.out⟩
    have d1 : decide (100000 < (a0.size : Int)) = false := decide_eq_false (by omega)
    by_cases h2 : 5000 < l1.length
    · have d2 : decide (5000 < (l1.length : Int)) = true := decide_eq_true (by omega)
      clear hg
      go_enter Tryd.func10, Tryd.ntmps10
      go_wp2_with (first | (go_at_call 19; (with_reducible refine (garretlaw17_works.calls 10 true _ (Laid.below HLAID.out HB.out) HWK.out).mono ?_); rintro e wn_ ⟨rfl, hb⟩; have n0_ := Aside0.mk (below_step HB.out hb); clear HB hb; have HB := n0_; clear n0_))
      go_ret
      exact ⟨rfl, HB.out⟩
    have d2 : decide (5000 < (l1.length : Int)) = false := decide_eq_false (by omega)
    have HLEN := Aside0.mk (show l1.length ≤ 1000000000000 by omega)
    obtain ⟨r1, r2, j1, j2, p1, p2, p3, nb, z, g1, g2, g3, g4, g5, g6, g7, g8, g9, g10, g11⟩ := hg (by omega) (by omega)
    have H1 := Aside0.mk g1
    have H2 := Aside0.mk g2
    have H3 := Aside0.mk g3
    have H4 := Aside0.mk g4
    have H5 := Aside0.mk g5
    have H6 := Aside0.mk g6
    have H7 := Aside0.mk g7
    have H8 := Aside0.mk g8
    have H9 := Aside0.mk g9
    have H10 := Aside0.mk g10
    have H11 := Aside0.mk g11
    clear g1 g2 g3 g4 g5 g6 g7 g8 g9 g10 g11 hg h1 h2
    go_enter Tryd.func10, Tryd.ntmps10
    go_wp2_with (first
      | (go_at_call 39; (with_reducible refine (path_Split.calls garretlaw17_PathSplits.K a0 r1 r2 _ (Laid.below HLAID.out HB.out) H1.out).mono ?_); rintro e wn_ ⟨v5_, rfl, hR5, hb⟩; obtain ⟨A5, c5, rfl, hc5, hC5⟩ := Kd.R_reads hR5; have HR5 := Aside0.mk hR5; have HC5 := Aside0.mk hc5; clear hR5 hC5 hc5; have n0_ := Aside0.mk (below_step HB.out hb); have n1_ := Aside0.mk (Kd.C_below HC1.out hb); clear HB HC1 hb; have HB := n0_; have HC1 := n1_; clear n0_ n1_)
      | (go_at_call 40; (with_reducible refine (garretref17_Split.calls garretlaw17_PathSplits.K a0 r1 r2 _ H2.out).mono ?_); rintro e wn_ ⟨v7_, rfl, hR7, hb⟩; obtain ⟨A7, c7, rfl, hc7, hC7⟩ := Kd.R_reads hR7; have HR7 := Aside0.mk hR7; have HC7 := Aside0.mk hc7; clear hR7 hC7 hc7; have n0_ := Aside0.mk (below_step HB.out hb); have n1_ := Aside0.mk (Kd.C_below HC1.out hb); have n2_ := Aside0.mk (Kd.R_below HR5.out hb); clear HB HC1 HR5 hb; have HB := n0_; have HC1 := n1_; have HR5 := n2_; clear n0_ n1_ n2_)
      | (go_at_call 30; (with_reducible refine (Lends.lend_calls A1 c1 l1 _ HC1.out HCAP.out HLEN.out).mono ?_); rintro e wn_ ⟨⟨A9, c9, rfl, hc9, ho9⟩, hb⟩; have HLD := Aside0.mk (own_reads_of' (d := (⟨#[]⟩ : ByteArray)) ho9); have HC9 := Aside0.mk hc9; clear ho9 hc9; have n0_ := Aside0.mk (below_step HB.out hb); have n1_ := Aside0.mk (Kd.C_below HC1.out hb); have n2_ := Aside0.mk (Kd.R_below HR5.out hb); have n3_ := Aside0.mk (Kd.R_below HR7.out hb); clear HB HC1 HR5 HR7 hb; have HB := n0_; have HC1 := n1_; have HR5 := n2_; have HR7 := n3_; clear n0_ n1_ n2_ n3_)
      | (go_at_call 41; (with_reducible refine (path_Join.calls garretlaw17_PathSplits.K A9 c9 l1 j1 j2 _ (garretlaw17_PathSplits.front_C HLD.out) (Nat.le_trans (Nat.le_succ _) HC9.out) H3.out).mono ?_); rintro e wn_ ⟨rfl, hb⟩; have n0_ := Aside0.mk (below_step HB.out hb); have n1_ := Aside0.mk (Kd.C_below HC1.out hb); have n2_ := Aside0.mk (Kd.R_below HR5.out hb); have n3_ := Aside0.mk (Kd.R_below HR7.out hb); have n4_ := Aside0.mk (HLD.out.below hb); clear HB HC1 HR5 HR7 HLD hb; have HB := n0_; have HC1 := n1_; have HR5 := n2_; have HR7 := n3_; have HLD := n4_; clear n0_ n1_ n2_ n3_ n4_)
      | (go_at_call 42; (with_reducible refine (garretref17_Join.calls garretlaw17_PathSplits.K A1 c1 l1 j1 j2 _ HC1.out HCAP.out H4.out).mono ?_); rintro e wn_ ⟨rfl, hb⟩; have n0_ := Aside0.mk (below_step HB.out hb); have n1_ := Aside0.mk (Kd.C_below HC1.out hb); have n2_ := Aside0.mk (Kd.R_below HR5.out hb); have n3_ := Aside0.mk (Kd.R_below HR7.out hb); have n4_ := Aside0.mk (HLD.out.below hb); clear HB HC1 HR5 HR7 HLD hb; have HB := n0_; have HC1 := n1_; have HR5 := n2_; have HR7 := n3_; have HLD := n4_; clear n0_ n1_ n2_ n3_ n4_)
      | (go_at_call 43; (with_reducible refine (path_Parent.calls garretlaw17_PathSplits.K a0 p1 p2 p3 _ (Laid.below HLAID.out HB.out) H5.out).mono ?_); rintro e wn_ ⟨rfl, hb⟩; have n0_ := Aside0.mk (below_step HB.out hb); have n1_ := Aside0.mk (Kd.C_below HC1.out hb); have n2_ := Aside0.mk (Kd.R_below HR5.out hb); have n3_ := Aside0.mk (Kd.R_below HR7.out hb); have n4_ := Aside0.mk (HLD.out.below hb); clear HB HC1 HR5 HR7 HLD hb; have HB := n0_; have HC1 := n1_; have HR5 := n2_; have HR7 := n3_; have HLD := n4_; clear n0_ n1_ n2_ n3_ n4_)
      | (go_at_call 44; (with_reducible refine (garretref17_Parent.calls garretlaw17_PathSplits.K a0 p1 p2 p3 _ H6.out).mono ?_); rintro e wn_ ⟨rfl, hb⟩; have n0_ := Aside0.mk (below_step HB.out hb); have n1_ := Aside0.mk (Kd.C_below HC1.out hb); have n2_ := Aside0.mk (Kd.R_below HR5.out hb); have n3_ := Aside0.mk (Kd.R_below HR7.out hb); have n4_ := Aside0.mk (HLD.out.below hb); clear HB HC1 HR5 HR7 HLD hb; have HB := n0_; have HC1 := n1_; have HR5 := n2_; have HR7 := n3_; have HLD := n4_; clear n0_ n1_ n2_ n3_ n4_)
      | (go_at_call 35; (with_reducible refine (garretbook_SameTexts.calls garretlaw17_PathSplits.K A5 c5 r1 A7 c7 r1 true _ (garretlaw17_PathSplits.R_C HR5.out) HC5.out (garretlaw17_PathSplits.R_C HR7.out) HC7.out H9.out).mono ?_); rintro e wn_ ⟨rfl, hd⟩; have hb := hd.below; have n0_ := Aside0.mk (below_step HB.out hb); have n1_ := Aside0.mk (Kd.C_below HC1.out hb); have n2_ := Aside0.mk (Kd.R_below HR5.out hb); have n3_ := Aside0.mk (HLD.out.below hb); clear HB HC1 HR5 HLD hb; have HB := n0_; have HC1 := n1_; have HR5 := n2_; have HLD := n3_; clear n0_ n1_ n2_ n3_)
      | (go_at_call 45; (with_reducible refine (path_IsName.calls garretlaw17_PathSplits.K a0 nb _ H7.out).mono ?_); rintro e wn_ ⟨rfl, hd⟩; have hb := hd.below; have n0_ := Aside0.mk (below_step HB.out hb); have n1_ := Aside0.mk (Kd.C_below HC1.out hb); have n2_ := Aside0.mk (Kd.R_below HR5.out hb); have n3_ := Aside0.mk (HLD.out.below hb); clear HB HC1 HR5 HLD hb; have HB := n0_; have HC1 := n1_; have HR5 := n2_; have HLD := n3_; clear n0_ n1_ n2_ n3_)
      | (go_at_call 46; (with_reducible refine (garretref17_IsName.calls garretlaw17_PathSplits.K a0 nb _ H8.out).mono ?_); rintro e wn_ ⟨rfl, hd⟩; have hb := hd.below; have n0_ := Aside0.mk (below_step HB.out hb); have n1_ := Aside0.mk (Kd.C_below HC1.out hb); have n2_ := Aside0.mk (Kd.R_below HR5.out hb); have n3_ := Aside0.mk (HLD.out.below hb); clear HB HC1 HR5 HLD hb; have HB := n0_; have HC1 := n1_; have HR5 := n2_; have HLD := n3_; clear n0_ n1_ n2_ n3_)
      | (go_at_call 37; (with_reducible refine (Lends.kept_calls A9 c9 A1 c1 l1 _ l1.length rfl HLD.out HC9.out HLEN.out ((garretbook_SameTexts.calls garretlaw17_PathSplits.K A9 c9 l1 A1 c1 l1 true _ (garretlaw17_PathSplits.front_C HLD.out) (Nat.le_trans (Nat.le_succ _) HC9.out) HC1.out HCAP.out H10.out).mono fun e w' h_ => ⟨h_.1, h_.2.below⟩)).mono ?_); rintro e wn_ ⟨rfl, hb⟩; have n0_ := Aside0.mk (below_step HB.out hb); have n1_ := Aside0.mk (Kd.R_below HR5.out hb); clear HB HR5 hb; have HB := n0_; have HR5 := n1_; clear n0_ n1_)
      | (go_at_call 19; (with_reducible refine (garretlaw17_works.calls 10 true _ (Laid.below HLAID.out HB.out) HWK.out).mono ?_); rintro e wn_ ⟨rfl, hb⟩; have n0_ := Aside0.mk (below_step HB.out hb); have n1_ := Aside0.mk (Kd.R_below HR5.out hb); clear HB HR5 hb; have HB := n0_; have HR5 := n1_; clear n0_ n1_)
      | (go_at_call 38; (with_reducible refine (garretbook_SpoilTexts.calls garretlaw17_PathSplits.K (fun _ => True) _ r1 z _ _ HB.out HR5.out H11.out).mono ?_); rintro e wn_ ⟨rfl, -, hb, -⟩; clear HB HR5; have HB := Aside0.mk hb; clear hb))
    go_ret
    exact ⟨rfl, HB.out⟩
  · rw [if_neg hq] at h
    cases h

def garretlaw17_PathSplits.Pure : Prop := ∀ (a0 : ByteArray) (l1 : List ByteArray), (a0.size ≤ 140737488351232) → (l1.length ≤ maxLen ∧ l1.length * 16 ≤ 140737488351232 ∧ ∀ l1y ∈ l1, l1y.size ≤ 140737488351232) → garretlaw17_PathSplits.f a0 l1 = some true
theorem garretlaw17_PathSplits.walk (P : garretlaw17_PathSplits.Pure) (a0 : ByteArray) (A1 : Option Addr) (c1 : Nat) (l1 : List ByteArray) (w : World) (hr1 : Kd.C Kd.string w A1 l1.length l1) (hc1 : l1.length ≤ c1) (hL : Laid w) (o0 : (a0.size ≤ 140737488351232)) (o1 : (l1.length ≤ maxLen ∧ l1.length * 16 ≤ 140737488351232 ∧ ∀ l1y ∈ l1, l1y.size ≤ 140737488351232)) :
    Calls Tryd.prog 10 #[.string a0, .slice A1 l1.length c1] w fun e w' => e = .returned (.bool true) ∧ Below w.heap.size w w' := by
  have h := P a0 l1 o0 o1
  refine (garretlaw17_PathSplits.calls a0 A1 c1 l1 true w hr1 hc1 hL h).mono ?_
  rintro e w' ⟨rfl, hd⟩
  exact ⟨rfl, hd⟩
end Go.Proofs.YtcmajhdgaeploaaDoor.QPthS
