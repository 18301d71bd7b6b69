-- Written for this claim by a program of this session.
import Derived.Test.YtcmajhdgaeploaaDoorQCivx0
import Derived.Test.YtcmajhdgaeploaaDoorQCivx2
import Derived.Test.YtcmajhdgaeploaaDoorQCivx3
import Derived.Test.YtcmajhdgaeploaaDoorQCivx5
namespace Go.Proofs.YtcmajhdgaeploaaDoor.QCiv
open Go.RowKit Go.Proofs.YtcmajhdgaeploaaDoorW.PrintWords Go.Proofs.YtcmajhdgaeploaaDoorW.PrintLast Go.Proofs.YtcmajhdgaeploaaDoorW.PrintMore
attribute [local go_sem] max2_int min2_int max_two min_two max_three min_three max_four min_four   -- for this text's walks alone
set_option linter.unusedVariables false
set_option linter.unusedSimpArgs false

/-! ### garretlaw21_CivilKeys: function 6, by hand -/
/-- One unit's keys of two times: are they the same? None where they fall. -/
def garretlaw21_CivilKeys.pair (k : Nat) (u t v : Int) : Option Bool := (civil_Key.f k u t).bind fun x => (civil_Key.f k u v).bind fun y => if x.2 = 0 ∧ y.2 = 0 ∧ ¬ y.1 < x.1 then some (x.1 == y.1) else none
/-- What is said of the week's Monday. -/
def garretlaw21_CivilKeys.monday (k : Nat) (t m : Int) : Option Bool := (civil_Key.f k 3 t).bind fun a => (civil_Key.f k 3 m).bind fun b => (civil_Key.f k 3 (wrap64 (m - 1))).bind fun c => (civil_WeekOf.f k t).bind fun y => (civil_WeekOf.f k m).bind fun z =>
  if a.1 = b.1 ∧ c.1 = wrap64 (a.1 - 1) ∧ y.2.2 = 0 ∧ z.2.2 = 0 ∧ y.1 = z.1 ∧ y.2.1 = z.2.1 ∧ y.2.1 ≥ 1 ∧ y.2.1 ≤ 53 then some true else none
def garretlaw21_CivilKeys.mon (t wd : Int) : Int := wrap64 ((wrap64 (t - (Int.tmod t 86400))) - (wrap64 ((wrap64 (wd - 1)) * 86400)))
def garretlaw21_CivilKeys.f (k : Nat) (a0 a1 : Int) : Option Bool := (garretlaw21_works.f k).bind fun o => if o = true then ((garretbook_Among.f a0 1099510627776).bind fun t => (garretbook_Among.f a1 1000000).bind fun q =>
  (garretlaw21_CivilKeys.pair k 1 t (wrap64 (t + q))).bind fun s1 => (garretlaw21_CivilKeys.pair k 2 t (wrap64 (t + q))).bind fun s2 => (garretlaw21_CivilKeys.pair k 3 t (wrap64 (t + q))).bind fun s3 => (garretlaw21_CivilKeys.pair k 4 t (wrap64 (t + q))).bind fun s4 => (garretlaw21_CivilKeys.pair k 5 t (wrap64 (t + q))).bind fun s5 =>
  if (s1 && !s2 || (s2 && !(s3 && s4) || s4 && !s5)) = false then ((civil_Of.f k t).bind fun d => if d.2.2.2.2.2.2.2 = 0 then (if garretlaw21_CivilKeys.mon t d.2.2.2.2.2.2.1 < 1 then some true else garretlaw21_CivilKeys.monday k t (garretlaw21_CivilKeys.mon t d.2.2.2.2.2.2.1)) else none) else none) else none
/-- What the five answers' array holds ahead of round j. -/
def garretlaw21_CivilKeys.cells (j : Int) (s1 s2 s3 s4 s5 : Bool) : Array Value := #[.bool false, .bool (if 1 < j then s1 else false), .bool (if 2 < j then s2 else false), .bool (if 3 < j then s3 else false), .bool (if 4 < j then s4 else false), .bool (if 5 < j then s5 else false)]
theorem garretlaw21_CivilKeys.pair_some {k : Nat} {u t v : Int} {s : Bool} (h : garretlaw21_CivilKeys.pair k u t v = some s) : ∃ x y, civil_Key.f k u t = some (x, 0) ∧ civil_Key.f k u v = some (y, 0) ∧ ¬ y < x ∧ s = (x == y) := by
  unfold garretlaw21_CivilKeys.pair at h
  replace h := Option.bind_eq_some_iff.mp h
  obtain ⟨⟨x, e⟩, hx, h⟩ := h
  replace h := Option.bind_eq_some_iff.mp h
  obtain ⟨⟨y, f⟩, hy, h⟩ := h
  split at h
  · rename_i c
    obtain ⟨c1, c2, c3⟩ := c
    dsimp only at c1 c2 c3
    subst c1 c2
    exact ⟨x, y, hx, hy, c3, (Option.some.inj h).symm⟩
  · cases h
set_option maxHeartbeats 8000000 in
set_option maxRecDepth 100000 in
theorem garretlaw21_CivilKeys.calls (k : Nat) (a0 a1 : Int) (r : Bool) (w : World) (hL : Laid w) (h : garretlaw21_CivilKeys.f k a0 a1 = some r) :
    Calls Tryd.prog 6 #[.int .i64 a0, .int .i64 a1] w fun e w' => e = .returned (.bool r) ∧ Below w.heap.size w w' := by
  have HLAID := Aside0.mk hL
  clear hL
  unfold garretlaw21_CivilKeys.f at h
  replace h := Option.bind_eq_some_iff.mp h
  obtain ⟨o, h1, h⟩ := h
  by_cases co : o = true
  · subst co
    rw [if_pos rfl] at h
    replace h := Option.bind_eq_some_iff.mp h
    obtain ⟨t, h2, h⟩ := h
    replace h := Option.bind_eq_some_iff.mp h
    obtain ⟨q, h3, h⟩ := h
    obtain ⟨u, hu⟩ : ∃ u, u = wrap64 (t + q) := ⟨_, rfl⟩
    rw [← hu] at h
    have HU := Aside0.mk hu
    clear hu
    replace h := Option.bind_eq_some_iff.mp h
    obtain ⟨s1, p1, h⟩ := h
    obtain ⟨x1, y1, X0, Y0, D1, e1⟩ := garretlaw21_CivilKeys.pair_some p1
    have X1 := Aside0.mk X0
    have Y1 := Aside0.mk Y0
    have E1 := Aside0.mk e1
    have D1 := Aside0.mk D1
    clear X0 Y0 e1 p1
    replace h := Option.bind_eq_some_iff.mp h
    obtain ⟨s2, p2, h⟩ := h
    obtain ⟨x2, y2, X0, Y0, D2, e2⟩ := garretlaw21_CivilKeys.pair_some p2
    have X2 := Aside0.mk X0
    have Y2 := Aside0.mk Y0
    have E2 := Aside0.mk e2
    have D2 := Aside0.mk D2
    clear X0 Y0 e2 p2
    replace h := Option.bind_eq_some_iff.mp h
    obtain ⟨s3, p3, h⟩ := h
    obtain ⟨x3, y3, X0, Y0, D3, e3⟩ := garretlaw21_CivilKeys.pair_some p3
    have X3 := Aside0.mk X0
    have Y3 := Aside0.mk Y0
    have E3 := Aside0.mk e3
    have D3 := Aside0.mk D3
    clear X0 Y0 e3 p3
    replace h := Option.bind_eq_some_iff.mp h
    obtain ⟨s4, p4, h⟩ := h
    obtain ⟨x4, y4, X0, Y0, D4, e4⟩ := garretlaw21_CivilKeys.pair_some p4
    have X4 := Aside0.mk X0
    have Y4 := Aside0.mk Y0
    have E4 := Aside0.mk e4
    have D4 := Aside0.mk D4
    clear X0 Y0 e4 p4
    replace h := Option.bind_eq_some_iff.mp h
    obtain ⟨s5, p5, h⟩ := h
    obtain ⟨x5, y5, X0, Y0, D5, e5⟩ := garretlaw21_CivilKeys.pair_some p5
    have X5 := Aside0.mk X0
    have Y5 := Aside0.mk Y0
    have E5 := Aside0.mk e5
    have D5 := Aside0.mk D5
    clear X0 Y0 e5 p5
    by_cases cs : (s1 && !s2 || (s2 && !(s3 && s4) || s4 && !s5)) = false
    · rw [if_pos cs] at h
      replace h := Option.bind_eq_some_iff.mp h
      obtain ⟨⟨d1, d2, d3, d4, d5, d6, d7, d8⟩, h4, h⟩ := h
      dsimp only at h
      have A1 := Aside0.mk h1
      have A2 := Aside0.mk h2
      have A3 := Aside0.mk h3
      have A4 := Aside0.mk h4
      have H := Aside0.mk h
      have CS := Aside0.mk cs
      clear h1 h2 h3 h4 h cs
      have HB := Aside0.mk (Below.refl w.heap.size w)
      go_enter Tryd.func6, Tryd.ntmps6
      go_wp2_with (first | ((with_reducible refine gate_callee (f := 13) rfl ?_); refine goesL_ (some 27) rfl rfl Tryd.func13 (by kernel_rfl) rfl #[] rfl (by (try simp only [List.map_toArray, List.map_cons, List.map_nil]); first | done | rfl) ?_; (with_reducible refine (garretlaw21_works.calls k true _ ?side1 A1.out).mono ?_); (case side1 => first | (with_reducible exact HLAID.out) | (with_reducible exact Laid.drewN HLAID.out _) | exact Laid.below HLAID.out (by repeat (first | (with_reducible first | exact HB.out | apply below_alloc | apply pw_below_drewN | apply below_drew1) | exact HB.out))); rintro e wn_ ⟨rfl, hb⟩; refine ⟨_, rfl, ?_⟩; have n0_ := Aside0.mk (below_step (by repeat (first | (with_reducible first | exact HB.out | apply below_alloc | apply pw_below_drewN | apply below_drew1) | exact HB.out)) hb); clear HB; have HB := n0_; clear n0_; clear hb) | ((with_reducible refine gate_callee (f := 14) rfl ?_); refine goesL_ (some 30) rfl rfl Tryd.func14 (by kernel_rfl) rfl #[.int .i64 a0, .int .i64 1099510627776] rfl (by (try simp only [List.map_toArray, List.map_cons, List.map_nil]); first | done | rfl) ?_; (with_reducible refine (garretbook_Among.calls a0 1099510627776 t _ A2.out).mono ?_); rintro e wn_ ⟨rfl, ⟨nd, rfl⟩⟩; refine ⟨_, rfl, ?_⟩) | ((with_reducible refine gate_callee (f := 14) rfl ?_); refine goesL_ (some 33) rfl rfl Tryd.func14 (by kernel_rfl) rfl #[.int .i64 a1, .int .i64 1000000] rfl (by (try simp only [List.map_toArray, List.map_cons, List.map_nil]); first | done | rfl) ?_; (with_reducible refine (garretbook_Among.calls a1 1000000 q _ A3.out).mono ?_); rintro e wn_ ⟨rfl, ⟨nd, rfl⟩⟩; refine ⟨_, rfl, ?_⟩) | ((with_reducible refine gate_dst (N := 6) rfl ?_); refine box_event ?hg (N := 6) ?hd (cs := #[.bool false, .bool false, .bool false, .bool false, .bool false, .bool false]) (t := 35) ?hr ?_; (case hd => rfl); (case hg => rfl); (case hr => first | (go_simp; done) | (go_simp; rfl)); intro gb hg wb_ hbox hb; have n0_ := Aside0.mk (below_step (by repeat (first | (with_reducible first | exact HB.out | apply below_alloc | apply pw_below_drewN | apply below_drew1) | exact HB.out)) hb); have n1_ := Aside0.mk hbox; have n3_ := Aside0.mk ((by rw [hg]; exact (below_size (by repeat (first | (with_reducible first | exact HB.out | apply below_alloc | apply pw_below_drewN | apply below_drew1) | exact HB.out))) : w.heap.size ≤ gb)); clear HB; have HB := n0_; have BK := n1_; have GE := n3_; clear n0_ n1_ n3_; clear hb hbox hg; obtain ⟨hcBK0, hcBK1, hcBK2, hcBK3, hcBK4, hcBK5, hfBK0, hfBK1, hfBK2, hfBK3, hfBK4, hfBK5⟩ := blk_all6 BK.out))
      rw [← HU.out]
      clear HU
      go_loopw [7] (fun u7 w' => ∃ j : Int, 1 ≤ j ∧ j ≤ 6 ∧ u7 = .int .i64 j ∧ Aside0 (w'.heap[gb]? = some (.cells (garretlaw21_CivilKeys.cells j s1 s2 s3 s4 s5) 35 (0, 0))) ∧ Aside0 (Below w.heap.size w w')) (fun u7 _ => 6 - (intOf u7).toNat)
      case atStart => exact ⟨1, by decide, by decide, rfl, ⟨by (with_reducible repeat (first | refine blk_drewN ?_ _ | refine blk_drew ?_ | refine blk_alloc ?_ _)); exact BK.out⟩, ⟨(by repeat (first | (with_reducible first | exact HB.out | apply below_alloc | apply pw_below_drewN | apply below_drew1 | refine below_set ?_ GE.out) | exact HB.out))⟩⟩
      case round =>
        clear BK HB
        obtain ⟨j, j1, j6, rfl, BK, HB⟩ := hrel
        have hj : j = 1 ∨ j = 2 ∨ j = 3 ∨ j = 4 ∨ j = 5 ∨ j = 6 := by omega
        clear j1 j6
        rcases hj with rfl | rfl | rfl | rfl | rfl | rfl
        · have BK : Aside0 (wr.heap[gb]? = some (.cells #[.bool false, .bool false, .bool false, .bool false, .bool false, .bool false] 35 (0, 0))) := BK
          have dj : decide (y1 < x1) = false := decide_eq_false (by have := D1.out; omega)
          go_wp2_with (first | ((with_reducible refine gate_callee (f := 21) rfl ?_); refine goesL_ (some 42) rfl rfl Tryd.func21 (by kernel_rfl) rfl #[.int .i64 1, .int .i64 t] rfl (by (try simp only [List.map_toArray, List.map_cons, List.map_nil]); first | done | rfl) ?_; (with_reducible refine (civil_Key.calls k 1 t x1 0 _ ?side1 X1.out).mono ?_); (case side1 => first | (with_reducible exact HLAID.out) | (with_reducible exact Laid.drewN HLAID.out _) | exact Laid.below HLAID.out (by repeat (first | (with_reducible first | exact HB.out | apply below_alloc | apply pw_below_drewN | apply below_drew1 | refine below_set ?_ GE.out) | exact HB.out))); rintro e wn_ ⟨rfl, hb⟩; refine ⟨_, rfl, ?_⟩; have n0_ := Aside0.mk (below_step (by repeat (first | (with_reducible first | exact HB.out | apply below_alloc | apply pw_below_drewN | apply below_drew1 | refine below_set ?_ GE.out) | exact HB.out)) hb); have m0_ := Aside0.mk (blk_below (by (with_reducible repeat (first | exact BK.out | refine blk_drewN ?_ _ | refine blk_drew ?_ | refine blk_alloc ?_ _))) hb); clear HB; have HB := n0_; clear n0_; clear BK; have BK := m0_; clear m0_; clear hb; obtain ⟨hcBK0, hcBK1, hcBK2, hcBK3, hcBK4, hcBK5, hfBK0, hfBK1, hfBK2, hfBK3, hfBK4, hfBK5⟩ := blk_all6 BK.out) | ((with_reducible refine gate_callee (f := 21) rfl ?_); refine goesL_ (some 48) rfl rfl Tryd.func21 (by kernel_rfl) rfl #[.int .i64 1, .int .i64 u] rfl (by (try simp only [List.map_toArray, List.map_cons, List.map_nil]); first | done | rfl) ?_; (with_reducible refine (civil_Key.calls k 1 u y1 0 _ ?side1 Y1.out).mono ?_); (case side1 => first | (with_reducible exact HLAID.out) | (with_reducible exact Laid.drewN HLAID.out _) | exact Laid.below HLAID.out (by repeat (first | (with_reducible first | exact HB.out | apply below_alloc | apply pw_below_drewN | apply below_drew1 | refine below_set ?_ GE.out) | exact HB.out))); rintro e wn_ ⟨rfl, hb⟩; refine ⟨_, rfl, ?_⟩; have n0_ := Aside0.mk (below_step (by repeat (first | (with_reducible first | exact HB.out | apply below_alloc | apply pw_below_drewN | apply below_drew1 | refine below_set ?_ GE.out) | exact HB.out)) hb); have m0_ := Aside0.mk (blk_below (by (with_reducible repeat (first | exact BK.out | refine blk_drewN ?_ _ | refine blk_drew ?_ | refine blk_alloc ?_ _))) hb); clear HB; have HB := n0_; clear n0_; clear BK; have BK := m0_; clear m0_; clear hb; obtain ⟨hcBK0, hcBK1, hcBK2, hcBK3, hcBK4, hcBK5, hfBK0, hfBK1, hfBK2, hfBK3, hfBK4, hfBK5⟩ := blk_all6 BK.out))
          go_roundw
          case rel => exact ⟨2, by decide, by decide, rfl, ⟨by (with_reducible repeat (first | refine blk_drewN ?_ _ | refine blk_drew ?_ | refine blk_alloc ?_ _)); refine blk_put (cs := #[.bool false, .bool false, .bool false, .bool false, .bool false, .bool false]) ?_ 1 _ (by rw [E1.out]; rfl); (with_reducible repeat (first | refine blk_drewN ?_ _ | refine blk_drew ?_ | refine blk_alloc ?_ _)); exact BK.out⟩, ⟨(by repeat (first | (with_reducible first | exact HB.out | apply below_alloc | apply pw_below_drewN | apply below_drew1 | refine below_set ?_ GE.out) | exact HB.out))⟩⟩
          case measure => simp [intOf]
        · have BK : Aside0 (wr.heap[gb]? = some (.cells #[.bool false, .bool s1, .bool false, .bool false, .bool false, .bool false] 35 (0, 0))) := BK
          have dj : decide (y2 < x2) = false := decide_eq_false (by have := D2.out; omega)
          go_wp2_with (first | ((with_reducible refine gate_callee (f := 21) rfl ?_); refine goesL_ (some 42) rfl rfl Tryd.func21 (by kernel_rfl) rfl #[.int .i64 2, .int .i64 t] rfl (by (try simp only [List.map_toArray, List.map_cons, List.map_nil]); first | done | rfl) ?_; (with_reducible refine (civil_Key.calls k 2 t x2 0 _ ?side1 X2.out).mono ?_); (case side1 => first | (with_reducible exact HLAID.out) | (with_reducible exact Laid.drewN HLAID.out _) | exact Laid.below HLAID.out (by repeat (first | (with_reducible first | exact HB.out | apply below_alloc | apply pw_below_drewN | apply below_drew1 | refine below_set ?_ GE.out) | exact HB.out))); rintro e wn_ ⟨rfl, hb⟩; refine ⟨_, rfl, ?_⟩; have n0_ := Aside0.mk (below_step (by repeat (first | (with_reducible first | exact HB.out | apply below_alloc | apply pw_below_drewN | apply below_drew1 | refine below_set ?_ GE.out) | exact HB.out)) hb); have m0_ := Aside0.mk (blk_below (by (with_reducible repeat (first | exact BK.out | refine blk_drewN ?_ _ | refine blk_drew ?_ | refine blk_alloc ?_ _))) hb); clear HB; have HB := n0_; clear n0_; clear BK; have BK := m0_; clear m0_; clear hb; obtain ⟨hcBK0, hcBK1, hcBK2, hcBK3, hcBK4, hcBK5, hfBK0, hfBK1, hfBK2, hfBK3, hfBK4, hfBK5⟩ := blk_all6 BK.out) | ((with_reducible refine gate_callee (f := 21) rfl ?_); refine goesL_ (some 48) rfl rfl Tryd.func21 (by kernel_rfl) rfl #[.int .i64 2, .int .i64 u] rfl (by (try simp only [List.map_toArray, List.map_cons, List.map_nil]); first | done | rfl) ?_; (with_reducible refine (civil_Key.calls k 2 u y2 0 _ ?side1 Y2.out).mono ?_); (case side1 => first | (with_reducible exact HLAID.out) | (with_reducible exact Laid.drewN HLAID.out _) | exact Laid.below HLAID.out (by repeat (first | (with_reducible first | exact HB.out | apply below_alloc | apply pw_below_drewN | apply below_drew1 | refine below_set ?_ GE.out) | exact HB.out))); rintro e wn_ ⟨rfl, hb⟩; refine ⟨_, rfl, ?_⟩; have n0_ := Aside0.mk (below_step (by repeat (first | (with_reducible first | exact HB.out | apply below_alloc | apply pw_below_drewN | apply below_drew1 | refine below_set ?_ GE.out) | exact HB.out)) hb); have m0_ := Aside0.mk (blk_below (by (with_reducible repeat (first | exact BK.out | refine blk_drewN ?_ _ | refine blk_drew ?_ | refine blk_alloc ?_ _))) hb); clear HB; have HB := n0_; clear n0_; clear BK; have BK := m0_; clear m0_; clear hb; obtain ⟨hcBK0, hcBK1, hcBK2, hcBK3, hcBK4, hcBK5, hfBK0, hfBK1, hfBK2, hfBK3, hfBK4, hfBK5⟩ := blk_all6 BK.out))
          go_roundw
          case rel => exact ⟨3, by decide, by decide, rfl, ⟨by (with_reducible repeat (first | refine blk_drewN ?_ _ | refine blk_drew ?_ | refine blk_alloc ?_ _)); refine blk_put (cs := #[.bool false, .bool s1, .bool false, .bool false, .bool false, .bool false]) ?_ 2 _ (by rw [E2.out]; rfl); (with_reducible repeat (first | refine blk_drewN ?_ _ | refine blk_drew ?_ | refine blk_alloc ?_ _)); exact BK.out⟩, ⟨(by repeat (first | (with_reducible first | exact HB.out | apply below_alloc | apply pw_below_drewN | apply below_drew1 | refine below_set ?_ GE.out) | exact HB.out))⟩⟩
          case measure => simp [intOf]
        · have BK : Aside0 (wr.heap[gb]? = some (.cells #[.bool false, .bool s1, .bool s2, .bool false, .bool false, .bool false] 35 (0, 0))) := BK
          have dj : decide (y3 < x3) = false := decide_eq_false (by have := D3.out; omega)
          go_wp2_with (first | ((with_reducible refine gate_callee (f := 21) rfl ?_); refine goesL_ (some 42) rfl rfl Tryd.func21 (by kernel_rfl) rfl #[.int .i64 3, .int .i64 t] rfl (by (try simp only [List.map_toArray, List.map_cons, List.map_nil]); first | done | rfl) ?_; (with_reducible refine (civil_Key.calls k 3 t x3 0 _ ?side1 X3.out).mono ?_); (case side1 => first | (with_reducible exact HLAID.out) | (with_reducible exact Laid.drewN HLAID.out _) | exact Laid.below HLAID.out (by repeat (first | (with_reducible first | exact HB.out | apply below_alloc | apply pw_below_drewN | apply below_drew1 | refine below_set ?_ GE.out) | exact HB.out))); rintro e wn_ ⟨rfl, hb⟩; refine ⟨_, rfl, ?_⟩; have n0_ := Aside0.mk (below_step (by repeat (first | (with_reducible first | exact HB.out | apply below_alloc | apply pw_below_drewN | apply below_drew1 | refine below_set ?_ GE.out) | exact HB.out)) hb); have m0_ := Aside0.mk (blk_below (by (with_reducible repeat (first | exact BK.out | refine blk_drewN ?_ _ | refine blk_drew ?_ | refine blk_alloc ?_ _))) hb); clear HB; have HB := n0_; clear n0_; clear BK; have BK := m0_; clear m0_; clear hb; obtain ⟨hcBK0, hcBK1, hcBK2, hcBK3, hcBK4, hcBK5, hfBK0, hfBK1, hfBK2, hfBK3, hfBK4, hfBK5⟩ := blk_all6 BK.out) | ((with_reducible refine gate_callee (f := 21) rfl ?_); refine goesL_ (some 48) rfl rfl Tryd.func21 (by kernel_rfl) rfl #[.int .i64 3, .int .i64 u] rfl (by (try simp only [List.map_toArray, List.map_cons, List.map_nil]); first | done | rfl) ?_; (with_reducible refine (civil_Key.calls k 3 u y3 0 _ ?side1 Y3.out).mono ?_); (case side1 => first | (with_reducible exact HLAID.out) | (with_reducible exact Laid.drewN HLAID.out _) | exact Laid.below HLAID.out (by repeat (first | (with_reducible first | exact HB.out | apply below_alloc | apply pw_below_drewN | apply below_drew1 | refine below_set ?_ GE.out) | exact HB.out))); rintro e wn_ ⟨rfl, hb⟩; refine ⟨_, rfl, ?_⟩; have n0_ := Aside0.mk (below_step (by repeat (first | (with_reducible first | exact HB.out | apply below_alloc | apply pw_below_drewN | apply below_drew1 | refine below_set ?_ GE.out) | exact HB.out)) hb); have m0_ := Aside0.mk (blk_below (by (with_reducible repeat (first | exact BK.out | refine blk_drewN ?_ _ | refine blk_drew ?_ | refine blk_alloc ?_ _))) hb); clear HB; have HB := n0_; clear n0_; clear BK; have BK := m0_; clear m0_; clear hb; obtain ⟨hcBK0, hcBK1, hcBK2, hcBK3, hcBK4, hcBK5, hfBK0, hfBK1, hfBK2, hfBK3, hfBK4, hfBK5⟩ := blk_all6 BK.out))
          go_roundw
          case rel => exact ⟨4, by decide, by decide, rfl, ⟨by (with_reducible repeat (first | refine blk_drewN ?_ _ | refine blk_drew ?_ | refine blk_alloc ?_ _)); refine blk_put (cs := #[.bool false, .bool s1, .bool s2, .bool false, .bool false, .bool false]) ?_ 3 _ (by rw [E3.out]; rfl); (with_reducible repeat (first | refine blk_drewN ?_ _ | refine blk_drew ?_ | refine blk_alloc ?_ _)); exact BK.out⟩, ⟨(by repeat (first | (with_reducible first | exact HB.out | apply below_alloc | apply pw_below_drewN | apply below_drew1 | refine below_set ?_ GE.out) | exact HB.out))⟩⟩
          case measure => simp [intOf]
        · have BK : Aside0 (wr.heap[gb]? = some (.cells #[.bool false, .bool s1, .bool s2, .bool s3, .bool false, .bool false] 35 (0, 0))) := BK
          have dj : decide (y4 < x4) = false := decide_eq_false (by have := D4.out; omega)
          go_wp2_with (first | ((with_reducible refine gate_callee (f := 21) rfl ?_); refine goesL_ (some 42) rfl rfl Tryd.func21 (by kernel_rfl) rfl #[.int .i64 4, .int .i64 t] rfl (by (try simp only [List.map_toArray, List.map_cons, List.map_nil]); first | done | rfl) ?_; (with_reducible refine (civil_Key.calls k 4 t x4 0 _ ?side1 X4.out).mono ?_); (case side1 => first | (with_reducible exact HLAID.out) | (with_reducible exact Laid.drewN HLAID.out _) | exact Laid.below HLAID.out (by repeat (first | (with_reducible first | exact HB.out | apply below_alloc | apply pw_below_drewN | apply below_drew1 | refine below_set ?_ GE.out) | exact HB.out))); rintro e wn_ ⟨rfl, hb⟩; refine ⟨_, rfl, ?_⟩; have n0_ := Aside0.mk (below_step (by repeat (first | (with_reducible first | exact HB.out | apply below_alloc | apply pw_below_drewN | apply below_drew1 | refine below_set ?_ GE.out) | exact HB.out)) hb); have m0_ := Aside0.mk (blk_below (by (with_reducible repeat (first | exact BK.out | refine blk_drewN ?_ _ | refine blk_drew ?_ | refine blk_alloc ?_ _))) hb); clear HB; have HB := n0_; clear n0_; clear BK; have BK := m0_; clear m0_; clear hb; obtain ⟨hcBK0, hcBK1, hcBK2, hcBK3, hcBK4, hcBK5, hfBK0, hfBK1, hfBK2, hfBK3, hfBK4, hfBK5⟩ := blk_all6 BK.out) | ((with_reducible refine gate_callee (f := 21) rfl ?_); refine goesL_ (some 48) rfl rfl Tryd.func21 (by kernel_rfl) rfl #[.int .i64 4, .int .i64 u] rfl (by (try simp only [List.map_toArray, List.map_cons, List.map_nil]); first | done | rfl) ?_; (with_reducible refine (civil_Key.calls k 4 u y4 0 _ ?side1 Y4.out).mono ?_); (case side1 => first | (with_reducible exact HLAID.out) | (with_reducible exact Laid.drewN HLAID.out _) | exact Laid.below HLAID.out (by repeat (first | (with_reducible first | exact HB.out | apply below_alloc | apply pw_below_drewN | apply below_drew1 | refine below_set ?_ GE.out) | exact HB.out))); rintro e wn_ ⟨rfl, hb⟩; refine ⟨_, rfl, ?_⟩; have n0_ := Aside0.mk (below_step (by repeat (first | (with_reducible first | exact HB.out | apply below_alloc | apply pw_below_drewN | apply below_drew1 | refine below_set ?_ GE.out) | exact HB.out)) hb); have m0_ := Aside0.mk (blk_below (by (with_reducible repeat (first | exact BK.out | refine blk_drewN ?_ _ | refine blk_drew ?_ | refine blk_alloc ?_ _))) hb); clear HB; have HB := n0_; clear n0_; clear BK; have BK := m0_; clear m0_; clear hb; obtain ⟨hcBK0, hcBK1, hcBK2, hcBK3, hcBK4, hcBK5, hfBK0, hfBK1, hfBK2, hfBK3, hfBK4, hfBK5⟩ := blk_all6 BK.out))
          go_roundw
          case rel => exact ⟨5, by decide, by decide, rfl, ⟨by (with_reducible repeat (first | refine blk_drewN ?_ _ | refine blk_drew ?_ | refine blk_alloc ?_ _)); refine blk_put (cs := #[.bool false, .bool s1, .bool s2, .bool s3, .bool false, .bool false]) ?_ 4 _ (by rw [E4.out]; rfl); (with_reducible repeat (first | refine blk_drewN ?_ _ | refine blk_drew ?_ | refine blk_alloc ?_ _)); exact BK.out⟩, ⟨(by repeat (first | (with_reducible first | exact HB.out | apply below_alloc | apply pw_below_drewN | apply below_drew1 | refine below_set ?_ GE.out) | exact HB.out))⟩⟩
          case measure => simp [intOf]
        · have BK : Aside0 (wr.heap[gb]? = some (.cells #[.bool false, .bool s1, .bool s2, .bool s3, .bool s4, .bool false] 35 (0, 0))) := BK
          have dj : decide (y5 < x5) = false := decide_eq_false (by have := D5.out; omega)
          go_wp2_with (first | ((with_reducible refine gate_callee (f := 21) rfl ?_); refine goesL_ (some 42) rfl rfl Tryd.func21 (by kernel_rfl) rfl #[.int .i64 5, .int .i64 t] rfl (by (try simp only [List.map_toArray, List.map_cons, List.map_nil]); first | done | rfl) ?_; (with_reducible refine (civil_Key.calls k 5 t x5 0 _ ?side1 X5.out).mono ?_); (case side1 => first | (with_reducible exact HLAID.out) | (with_reducible exact Laid.drewN HLAID.out _) | exact Laid.below HLAID.out (by repeat (first | (with_reducible first | exact HB.out | apply below_alloc | apply pw_below_drewN | apply below_drew1 | refine below_set ?_ GE.out) | exact HB.out))); rintro e wn_ ⟨rfl, hb⟩; refine ⟨_, rfl, ?_⟩; have n0_ := Aside0.mk (below_step (by repeat (first | (with_reducible first | exact HB.out | apply below_alloc | apply pw_below_drewN | apply below_drew1 | refine below_set ?_ GE.out) | exact HB.out)) hb); have m0_ := Aside0.mk (blk_below (by (with_reducible repeat (first | exact BK.out | refine blk_drewN ?_ _ | refine blk_drew ?_ | refine blk_alloc ?_ _))) hb); clear HB; have HB := n0_; clear n0_; clear BK; have BK := m0_; clear m0_; clear hb; obtain ⟨hcBK0, hcBK1, hcBK2, hcBK3, hcBK4, hcBK5, hfBK0, hfBK1, hfBK2, hfBK3, hfBK4, hfBK5⟩ := blk_all6 BK.out) | ((with_reducible refine gate_callee (f := 21) rfl ?_); refine goesL_ (some 48) rfl rfl Tryd.func21 (by kernel_rfl) rfl #[.int .i64 5, .int .i64 u] rfl (by (try simp only [List.map_toArray, List.map_cons, List.map_nil]); first | done | rfl) ?_; (with_reducible refine (civil_Key.calls k 5 u y5 0 _ ?side1 Y5.out).mono ?_); (case side1 => first | (with_reducible exact HLAID.out) | (with_reducible exact Laid.drewN HLAID.out _) | exact Laid.below HLAID.out (by repeat (first | (with_reducible first | exact HB.out | apply below_alloc | apply pw_below_drewN | apply below_drew1 | refine below_set ?_ GE.out) | exact HB.out))); rintro e wn_ ⟨rfl, hb⟩; refine ⟨_, rfl, ?_⟩; have n0_ := Aside0.mk (below_step (by repeat (first | (with_reducible first | exact HB.out | apply below_alloc | apply pw_below_drewN | apply below_drew1 | refine below_set ?_ GE.out) | exact HB.out)) hb); have m0_ := Aside0.mk (blk_below (by (with_reducible repeat (first | exact BK.out | refine blk_drewN ?_ _ | refine blk_drew ?_ | refine blk_alloc ?_ _))) hb); clear HB; have HB := n0_; clear n0_; clear BK; have BK := m0_; clear m0_; clear hb; obtain ⟨hcBK0, hcBK1, hcBK2, hcBK3, hcBK4, hcBK5, hfBK0, hfBK1, hfBK2, hfBK3, hfBK4, hfBK5⟩ := blk_all6 BK.out))
          go_roundw
          case rel => exact ⟨6, by decide, by decide, rfl, ⟨by (with_reducible repeat (first | refine blk_drewN ?_ _ | refine blk_drew ?_ | refine blk_alloc ?_ _)); refine blk_put (cs := #[.bool false, .bool s1, .bool s2, .bool s3, .bool s4, .bool false]) ?_ 5 _ (by rw [E5.out]; rfl); (with_reducible repeat (first | refine blk_drewN ?_ _ | refine blk_drew ?_ | refine blk_alloc ?_ _)); exact BK.out⟩, ⟨(by repeat (first | (with_reducible first | exact HB.out | apply below_alloc | apply pw_below_drewN | apply below_drew1 | refine below_set ?_ GE.out) | exact HB.out))⟩⟩
          case measure => simp [intOf]
        · have BK : Aside0 (wr.heap[gb]? = some (.cells #[.bool false, .bool s1, .bool s2, .bool s3, .bool s4, .bool s5] 35 (0, 0))) := BK
          go_upto_region 14 with (fail)
          go_cut [95] (fun v95 wc => v95 = .bool false ∧ Aside0 (Below w.heap.size w wc))
          case first =>
            have hcs := CS.out
            obtain ⟨hc0, hc1, hc2, hc3, hc4, hc5, hf0, hf1, hf2, hf3, hf4, hf5⟩ := blk_all6 BK.out
            clear H
            cases s1 <;> cases s2 <;> cases s3 <;> cases s4 <;> cases s5 <;> first
              | (exfalso; revert hcs; decide)
              | (clear hcs CS; go_wp2; go_meet; (case rel => exact ⟨rfl, ⟨(by repeat (first | (with_reducible first | exact HB.out | apply below_alloc | apply pw_below_drewN | apply below_drew1 | refine below_set ?_ GE.out) | exact HB.out))⟩⟩))
          case rest =>
            obtain ⟨rfl, HB⟩ := hcut
            have h := H.out
            clear H
            by_cases c8 : d8 = 0
            · subst c8
              rw [if_pos rfl] at h
              obtain ⟨m, hm⟩ : ∃ m, m = garretlaw21_CivilKeys.mon t d7 := ⟨_, rfl⟩
              rw [← hm] at h
              by_cases cm : m < 1
              · rw [if_pos cm] at h
                obtain rfl := Option.some.inj h
                have dm : decide (wrap64 ((wrap64 (t - (Int.tmod t 86400))) - (wrap64 ((wrap64 (d7 - 1)) * 86400))) < 1) = true := by rw [hm] at cm; exact decide_eq_true cm
                clear h hm cm
                go_wp2_with (first | ((with_reducible refine gate_callee (f := 15) rfl ?_); refine goesL_ (some 98) rfl rfl Tryd.func15 (by kernel_rfl) rfl #[.int .i64 t] rfl (by (try simp only [List.map_toArray, List.map_cons, List.map_nil]); first | done | rfl) ?_; (with_reducible refine (civil_Of.calls k t d1 d2 d3 d4 d5 d6 d7 0 _ ?side1 A4.out).mono ?_); (case side1 => first | (with_reducible exact HLAID.out) | (with_reducible exact Laid.drewN HLAID.out _) | exact Laid.below HLAID.out (by repeat (first | (with_reducible first | exact HB.out | apply below_alloc | apply pw_below_drewN | apply below_drew1) | exact HB.out))); rintro e wn_ ⟨rfl, hb⟩; refine ⟨_, rfl, ?_⟩; have n0_ := Aside0.mk (below_step (by repeat (first | (with_reducible first | exact HB.out | apply below_alloc | apply pw_below_drewN | apply below_drew1) | exact HB.out)) hb); clear HB; have HB := n0_; clear n0_; clear hb) | ((with_reducible refine gate_dst (N := 12) rfl ?_); refine box_event ?hg (N := 12) ?hd (cs := #[.int .i64 0, .int .i64 0, .int .i64 0, .int .i64 0, .int .i64 0, .int .i64 0, .int .i64 0]) (t := 25) ?hr ?_; (case hd => rfl); (case hg => rfl); (case hr => first | (go_simp; done) | (go_simp; rfl)); intro gd hg wb_ hbox hb; have n0_ := Aside0.mk (below_step (by repeat (first | (with_reducible first | exact HB.out | apply below_alloc | apply pw_below_drewN | apply below_drew1) | exact HB.out)) hb); have n1_ := Aside0.mk hbox; have n3_ := Aside0.mk ((by rw [hg]; exact (below_size (by repeat (first | (with_reducible first | exact HB.out | apply below_alloc | apply pw_below_drewN | apply below_drew1) | exact HB.out))) : w.heap.size ≤ gd)); clear HB; have HB := n0_; have BD := n1_; have GEBD := n3_; clear n0_ n1_ n3_; clear hb hbox hg; obtain ⟨hcBD0, hcBD1, hcBD2, hcBD3, hcBD4, hcBD5, hcBD6, hfBD0, hfBD1, hfBD2, hfBD3, hfBD4, hfBD5, hfBD6⟩ := blk_all7 BD.out))
                go_ret
                exact ⟨rfl, (by repeat (first | (with_reducible first | exact HB.out | apply below_alloc | apply pw_below_drewN | apply below_drew1 | refine below_set ?_ GEBD.out) | exact HB.out))⟩
              · rw [if_neg cm] at h
                have hm' := hm
                unfold garretlaw21_CivilKeys.mon at hm'
                have dm : decide (wrap64 ((wrap64 (t - (Int.tmod t 86400))) - (wrap64 ((wrap64 (d7 - 1)) * 86400))) < 1) = false := by rw [← hm']; exact decide_eq_false cm
                unfold garretlaw21_CivilKeys.monday at h
                replace h := Option.bind_eq_some_iff.mp h
                obtain ⟨⟨a1_, a2_⟩, g1, h⟩ := h
                replace h := Option.bind_eq_some_iff.mp h
                obtain ⟨⟨b1_, b2_⟩, g2, h⟩ := h
                replace h := Option.bind_eq_some_iff.mp h
                obtain ⟨⟨c1_, c2_⟩, g3, h⟩ := h
                replace h := Option.bind_eq_some_iff.mp h
                obtain ⟨⟨v1, v2, v3⟩, g4, h⟩ := h
                replace h := Option.bind_eq_some_iff.mp h
                obtain ⟨⟨z1, z2, z3⟩, g5, h⟩ := h
                dsimp only at h
                split at h
                · rename_i cc
                  obtain ⟨k1, k2, k3, k4, k5, k6, k7, k8⟩ := cc
                  obtain rfl := Option.some.inj h
                  subst k1 k3 k4 k5 k6
                  have q2 : (c1_ == wrap64 (a1_ - 1)) = true := beq_iff_eq.mpr k2
                  have q7 : decide (1 ≤ v2) = true := decide_eq_true k7
                  have q8 : decide (v2 ≤ 53) = true := decide_eq_true k8
                  rw [hm'] at g2 g3 g5
                  have G1 := Aside0.mk g1
                  have G2 := Aside0.mk g2
                  have G3 := Aside0.mk g3
                  have G4 := Aside0.mk g4
                  have G5 := Aside0.mk g5
                  clear h hm hm' cm g1 g2 g3 g4 g5 k2 k7 k8
                  go_wp2_with (first | ((with_reducible refine gate_callee (f := 15) rfl ?_); refine goesL_ (some 98) rfl rfl Tryd.func15 (by kernel_rfl) rfl #[.int .i64 t] rfl (by (try simp only [List.map_toArray, List.map_cons, List.map_nil]); first | done | rfl) ?_; (with_reducible refine (civil_Of.calls k t d1 d2 d3 d4 d5 d6 d7 0 _ ?side1 A4.out).mono ?_); (case side1 => first | (with_reducible exact HLAID.out) | (with_reducible exact Laid.drewN HLAID.out _) | exact Laid.below HLAID.out (by repeat (first | (with_reducible first | exact HB.out | apply below_alloc | apply pw_below_drewN | apply below_drew1) | exact HB.out))); rintro e wn_ ⟨rfl, hb⟩; refine ⟨_, rfl, ?_⟩; have n0_ := Aside0.mk (below_step (by repeat (first | (with_reducible first | exact HB.out | apply below_alloc | apply pw_below_drewN | apply below_drew1) | exact HB.out)) hb); clear HB; have HB := n0_; clear n0_; clear hb) | ((with_reducible refine gate_dst (N := 12) rfl ?_); refine box_event ?hg (N := 12) ?hd (cs := #[.int .i64 0, .int .i64 0, .int .i64 0, .int .i64 0, .int .i64 0, .int .i64 0, .int .i64 0]) (t := 25) ?hr ?_; (case hd => rfl); (case hg => rfl); (case hr => first | (go_simp; done) | (go_simp; rfl)); intro gd hg wb_ hbox hb; have n0_ := Aside0.mk (below_step (by repeat (first | (with_reducible first | exact HB.out | apply below_alloc | apply pw_below_drewN | apply below_drew1) | exact HB.out)) hb); have n1_ := Aside0.mk hbox; have n3_ := Aside0.mk ((by rw [hg]; exact (below_size (by repeat (first | (with_reducible first | exact HB.out | apply below_alloc | apply pw_below_drewN | apply below_drew1) | exact HB.out))) : w.heap.size ≤ gd)); clear HB; have HB := n0_; have BD := n1_; have GEBD := n3_; clear n0_ n1_ n3_; clear hb hbox hg; obtain ⟨hcBD0, hcBD1, hcBD2, hcBD3, hcBD4, hcBD5, hcBD6, hfBD0, hfBD1, hfBD2, hfBD3, hfBD4, hfBD5, hfBD6⟩ := blk_all7 BD.out) | ((with_reducible refine gate_callee (f := 21) rfl ?_); refine goesL_ (some 120) rfl rfl Tryd.func21 (by kernel_rfl) rfl #[.int .i64 3, .int .i64 t] rfl (by (try simp only [List.map_toArray, List.map_cons, List.map_nil]); first | done | rfl) ?_; (with_reducible refine (civil_Key.calls k 3 t a1_ a2_ _ ?side1 G1.out).mono ?_); (case side1 => first | (with_reducible exact HLAID.out) | (with_reducible exact Laid.drewN HLAID.out _) | exact Laid.below HLAID.out (by repeat (first | (with_reducible first | exact HB.out | apply below_alloc | apply pw_below_drewN | apply below_drew1 | refine below_set ?_ GEBD.out) | exact HB.out))); rintro e wn_ ⟨rfl, hb⟩; refine ⟨_, rfl, ?_⟩; have n0_ := Aside0.mk (below_step (by repeat (first | (with_reducible first | exact HB.out | apply below_alloc | apply pw_below_drewN | apply below_drew1 | refine below_set ?_ GEBD.out) | exact HB.out)) hb); clear HB; have HB := n0_; clear n0_; clear hb) | ((with_reducible refine gate_callee (f := 21) rfl ?_); refine goesL_ (some 125) rfl rfl Tryd.func21 (by kernel_rfl) rfl #[.int .i64 3, .int .i64 (wrap64 ((wrap64 (t - (Int.tmod t 86400))) - (wrap64 ((wrap64 (d7 - 1)) * 86400))))] rfl (by (try simp only [List.map_toArray, List.map_cons, List.map_nil]); first | done | rfl) ?_; (with_reducible refine (civil_Key.calls k 3 _ a1_ b2_ _ ?side1 G2.out).mono ?_); (case side1 => first | (with_reducible exact HLAID.out) | (with_reducible exact Laid.drewN HLAID.out _) | exact Laid.below HLAID.out (by repeat (first | (with_reducible first | exact HB.out | apply below_alloc | apply pw_below_drewN | apply below_drew1 | refine below_set ?_ GEBD.out) | exact HB.out))); rintro e wn_ ⟨rfl, hb⟩; refine ⟨_, rfl, ?_⟩; have n0_ := Aside0.mk (below_step (by repeat (first | (with_reducible first | exact HB.out | apply below_alloc | apply pw_below_drewN | apply below_drew1 | refine below_set ?_ GEBD.out) | exact HB.out)) hb); clear HB; have HB := n0_; clear n0_; clear hb) | ((with_reducible refine gate_callee (f := 21) rfl ?_); refine goesL_ (some 131) rfl rfl Tryd.func21 (by kernel_rfl) rfl #[.int .i64 3, .int .i64 (wrap64 ((wrap64 ((wrap64 (t - (Int.tmod t 86400))) - (wrap64 ((wrap64 (d7 - 1)) * 86400)))) - 1))] rfl (by (try simp only [List.map_toArray, List.map_cons, List.map_nil]); first | done | rfl) ?_; (with_reducible refine (civil_Key.calls k 3 _ c1_ c2_ _ ?side1 G3.out).mono ?_); (case side1 => first | (with_reducible exact HLAID.out) | (with_reducible exact Laid.drewN HLAID.out _) | exact Laid.below HLAID.out (by repeat (first | (with_reducible first | exact HB.out | apply below_alloc | apply pw_below_drewN | apply below_drew1 | refine below_set ?_ GEBD.out) | exact HB.out))); rintro e wn_ ⟨rfl, hb⟩; refine ⟨_, rfl, ?_⟩; have n0_ := Aside0.mk (below_step (by repeat (first | (with_reducible first | exact HB.out | apply below_alloc | apply pw_below_drewN | apply below_drew1 | refine below_set ?_ GEBD.out) | exact HB.out)) hb); clear HB; have HB := n0_; clear n0_; clear hb) | ((with_reducible refine gate_callee (f := 22) rfl ?_); refine goesL_ (some 136) rfl rfl Tryd.func22 (by kernel_rfl) rfl #[.int .i64 t] rfl (by (try simp only [List.map_toArray, List.map_cons, List.map_nil]); first | done | rfl) ?_; (with_reducible refine (civil_WeekOf.calls k t v1 v2 0 _ ?side1 G4.out).mono ?_); (case side1 => first | (with_reducible exact HLAID.out) | (with_reducible exact Laid.drewN HLAID.out _) | exact Laid.below HLAID.out (by repeat (first | (with_reducible first | exact HB.out | apply below_alloc | apply pw_below_drewN | apply below_drew1 | refine below_set ?_ GEBD.out) | exact HB.out))); rintro e wn_ ⟨rfl, hb⟩; refine ⟨_, rfl, ?_⟩; have n0_ := Aside0.mk (below_step (by repeat (first | (with_reducible first | exact HB.out | apply below_alloc | apply pw_below_drewN | apply below_drew1 | refine below_set ?_ GEBD.out) | exact HB.out)) hb); clear HB; have HB := n0_; clear n0_; clear hb) | ((with_reducible refine gate_callee (f := 22) rfl ?_); refine goesL_ (some 142) rfl rfl Tryd.func22 (by kernel_rfl) rfl #[.int .i64 (wrap64 ((wrap64 (t - (Int.tmod t 86400))) - (wrap64 ((wrap64 (d7 - 1)) * 86400))))] rfl (by (try simp only [List.map_toArray, List.map_cons, List.map_nil]); first | done | rfl) ?_; (with_reducible refine (civil_WeekOf.calls k _ v1 v2 0 _ ?side1 G5.out).mono ?_); (case side1 => first | (with_reducible exact HLAID.out) | (with_reducible exact Laid.drewN HLAID.out _) | exact Laid.below HLAID.out (by repeat (first | (with_reducible first | exact HB.out | apply below_alloc | apply pw_below_drewN | apply below_drew1 | refine below_set ?_ GEBD.out) | exact HB.out))); rintro e wn_ ⟨rfl, hb⟩; refine ⟨_, rfl, ?_⟩; have n0_ := Aside0.mk (below_step (by repeat (first | (with_reducible first | exact HB.out | apply below_alloc | apply pw_below_drewN | apply below_drew1 | refine below_set ?_ GEBD.out) | exact HB.out)) hb); clear HB; have HB := n0_; clear n0_; clear hb))
                  go_ret
                  exact ⟨by first | rfl | simp, (by repeat (first | (with_reducible first | exact HB.out | apply below_alloc | apply pw_below_drewN | apply below_drew1 | refine below_set ?_ GEBD.out) | exact HB.out))⟩
                · cases h
            · rw [if_neg c8] at h
              cases h
    · rw [if_neg cs] at h
      cases h
  · rw [if_neg co] at h
    cases h

def garretlaw21_CivilKeys.Pure : Prop := ∀ (a0 : Int) (a1 : Int), ((Lit.int .i64 a0).wf = true) → ((Lit.int .i64 a1).wf = true) → ∃ k, garretlaw21_CivilKeys.f k a0 a1 = some true
theorem garretlaw21_CivilKeys.walk (P : garretlaw21_CivilKeys.Pure) (a0 : Int) (a1 : Int) (w : World)  (o0 : ((Lit.int .i64 a0).wf = true)) (o1 : ((Lit.int .i64 a1).wf = true)) (hL : Laid w) :
    Calls Tryd.prog 6 #[.int .i64 a0, .int .i64 a1] w fun e w' => e = .returned (.bool true) ∧ Below w.heap.size w w' := by
  obtain ⟨k, h⟩ := P a0 a1 o0 o1
  refine (garretlaw21_CivilKeys.calls k a0 a1 true w hL h).mono ?_
  rintro e w' ⟨rfl, hd⟩
  exact ⟨rfl, hd⟩
end Go.Proofs.YtcmajhdgaeploaaDoor.QCiv
