-- Written for this claim by a program of this session.
import Derived.Test.YtcmajhdgaeploaaDoorQPthOx0
import Derived.Test.YtcmajhdgaeploaaDoorQPthOx1
import Derived.Test.YtcmajhdgaeploaaDoorQPthOx2
import Derived.Test.YtcmajhdgaeploaaDoorQPthOx3
import Derived.Test.YtcmajhdgaeploaaDoorQPthOx4
namespace Go.Proofs.YtcmajhdgaeploaaDoor.QPthO
open Go.RowKit Go.Proofs.YtcmajhdgaeploaaDoorW.PrintWords Go.Proofs.YtcmajhdgaeploaaDoorW.PrintLast Go.Proofs.YtcmajhdgaeploaaDoorW.PrintMore
attribute [local go_sem] max2_int min2_int max_two min_two max_three min_three max_four min_four   -- for this text's walks alone
set_option linter.unusedVariables false
set_option linter.unusedSimpArgs false

/-! ### garretlaw17_PathOrders: function 8, by hand -/
def garretlaw17_PathOrders.K : Nat := 1000001
/-- All answers are told, and the same. -/
def garretlaw17_PathOrders.Good (a0 a1 : ByteArray) (l2 s : List ByteArray) (r2 : ByteArray) (ok ls : Bool) (z : List ByteArray) : Prop :=
  path_Sort.f l2 = some s ∧ path_Within.f garretlaw17_PathOrders.K a0 a1 = some (r2, ok) ∧ garretref17_Within.f garretlaw17_PathOrders.K a0 a1 = some (r2, ok) ∧ path_Less.f garretlaw17_PathOrders.K a0 a1 = some ls ∧ garretref17_Less.f garretlaw17_PathOrders.K a0 a1 = some ls ∧ garretref17_Sort.f garretlaw17_PathOrders.K l2 = some s ∧ garretbook_SameTexts.f garretlaw17_PathOrders.K s s = some true ∧ garretbook_SameTexts.f garretlaw17_PathOrders.K l2 l2 = some true ∧ garretbook_SpoilTexts.f garretlaw17_PathOrders.K s = some z
def garretlaw17_PathOrders.All (a0 a1 : ByteArray) (l2 : List ByteArray) : Prop := garretlaw17_works.f 10 = some true ∧ (l2.length ≤ 200 → a0.size ≤ 5000 → a1.size ≤ 5000 → (∀ k, k < l2.length → (l2.getD k ⟨#[]⟩).size ≤ 5000) → ∃ s r2 ok ls z, garretlaw17_PathOrders.Good a0 a1 l2 s r2 ok ls z)
open Classical in
noncomputable def garretlaw17_PathOrders.f (a0 a1 : ByteArray) (l2 : List ByteArray) : Option Bool := if garretlaw17_PathOrders.All a0 a1 l2 then some true else none
theorem garretlaw17_PathOrders.reads_front {w : World} {A : Option Addr} {P : List ByteArray} {y : ByteArray} (h : ReadsOf Value.string (⟨#[]⟩ : ByteArray) w A (P.length + 1) (P ++ [y])) : ReadsOf Value.string (⟨#[]⟩ : ByteArray) w A P.length P := by
  refine ⟨rfl, by have := h.2.1; omega, fun hp => ?_⟩
  obtain ⟨ad, e, hc⟩ := h.2.2 (by omega)
  refine ⟨ad, e, fun j hj => ?_⟩
  rw [hc j (by omega), List.getD_eq_getElem?_getD, List.getElem?_append_left hj, ← List.getD_eq_getElem?_getD]
theorem garretlaw17_PathOrders.front_C {w : World} {A : Option Addr} {P : List ByteArray} {y : ByteArray} (h : ReadsOf Value.string (⟨#[]⟩ : ByteArray) w A (P.length + 1) (P ++ [y])) : Kd.C Kd.string w A P.length P := Kd.C_of_reads (enc := Value.string) (d := (⟨#[]⟩ : ByteArray)) (h1 := fun _ => rfl) (garretlaw17_PathOrders.reads_front h)
theorem garretlaw17_PathOrders.R_C {w : World} {base : Nat} {ok : Nat → Prop} {A : Option Addr} {n c : Nat} {P : List ByteArray} (h : Kd.R Kd.string 9 w base ok (.slice A n c) P) : Kd.C Kd.string w A P.length P := (Kd.R_reads' h).2.2
theorem garretlaw17_PathOrders.R_low {w : World} {base : Nat} {v : Value} {P : List ByteArray} (h : Kd.R Kd.string 9 w base (fun _ => True) v P) : Kd.R Kd.string 9 w base (fun _ => True) v P := h
set_option maxHeartbeats 4000000 in
set_option maxRecDepth 100000 in
theorem garretlaw17_PathOrders.calls (a0 a1 : ByteArray) (A2 : Option Addr) (c2 : Nat) (l2 : List ByteArray) (r : Bool) (w : World) (hr2 : Kd.C Kd.string w A2 l2.length l2) (hc2 : l2.length ≤ c2) (hL : Laid w) (h : garretlaw17_PathOrders.f a0 a1 l2 = some r) :
    Calls Tryd.prog 8 #[.string a0, .string a1, .slice A2 l2.length c2] w fun e w' => e = .returned (.bool r) ∧ Below w.heap.size w w' := by
  unfold garretlaw17_PathOrders.f at h
  by_cases hq : garretlaw17_PathOrders.All a0 a1 l2
  · rw [if_pos hq] at h
    obtain rfl := Option.some.inj h
    obtain ⟨hw, hg⟩ := hq
    have HWK := Aside0.mk hw
    have HLAID := Aside0.mk hL
    have HB : Aside0 (Below w.heap.size w w) := ⟨Below.refl _ _⟩
    have HC1 := Aside0.mk hr2
    have HCAP := Aside0.mk hc2
    clear h hw hr2 hc2 hL
    by_cases h1 : 200 < l2.length
    · have d1 : decide (200 < (l2.length : Int)) = true := decide_eq_true (by omega)
      clear hg
      go_enter Tryd.func8, Tryd.ntmps8
      go_wp2_with (first | (go_at_call 19; (with_reducible refine (garretlaw17_works.calls 10 true _ (Laid.below HLAID.out HB.out) HWK.out).mono ?_); rintro e wn_ ⟨rfl, hb⟩; have n0_ := Aside0.mk (below_step HB.out hb); clear HB hb; have HB := n0_; clear n0_))
      go_ret
      exact ⟨rfl, HB.out⟩
    have d1 : decide (200 < (l2.length : Int)) = false := decide_eq_false (by omega)
    by_cases h2 : 5000 < a0.size
    · have d2 : decide (5000 < (a0.size : Int)) = true := decide_eq_true (by omega)
      clear hg
      go_enter Tryd.func8, Tryd.ntmps8
      go_wp2_with (first | (go_at_call 19; (with_reducible refine (garretlaw17_works.calls 10 true _ (Laid.below HLAID.out HB.out) HWK.out).mono ?_); rintro e wn_ ⟨rfl, hb⟩; have n0_ := Aside0.mk (below_step HB.out hb); clear HB hb; have HB := n0_; clear n0_))
      go_ret
      exact ⟨rfl, HB.out⟩
    have d2 : decide (5000 < (a0.size : Int)) = false := decide_eq_false (by omega)
    by_cases h3 : 5000 < a1.size
    · have d3 : decide (5000 < (a1.size : Int)) = true := decide_eq_true (by omega)
      clear hg
      go_enter Tryd.func8, Tryd.ntmps8
      go_wp2_with (first | (go_at_call 19; (with_reducible refine (garretlaw17_works.calls 10 true _ (Laid.below HLAID.out HB.out) HWK.out).mono ?_); rintro e wn_ ⟨rfl, hb⟩; have n0_ := Aside0.mk (below_step HB.out hb); clear HB hb; have HB := n0_; clear n0_))
      go_ret
      exact ⟨rfl, HB.out⟩
    have d3 : decide (5000 < (a1.size : Int)) = false := decide_eq_false (by omega)
    have HLEN := Aside0.mk (show l2.length ≤ 1000000000000 by omega)
    have HN := Aside0.mk (show l2.length ≤ 200 by omega)
    have HG := Aside0.mk (fun h4 => hg (by omega) (by omega) (by omega) h4)
    clear hg h1 h2 h3
    go_enter Tryd.func8, Tryd.ntmps8
    go_wp2
    clear d1 d2 d3
    go_loopw [7] (fun v7 W => ∃ i : Nat, Aside0 (i ≤ l2.length) ∧ v7 = .int .i64 (i : Int) ∧ Aside0 (∀ k, k < i → (l2.getD k ⟨#[]⟩).size ≤ 5000) ∧ Aside0 (Below w.heap.size w W)) (fun v7 _ => l2.length - (intOf v7).toNat)
    case atStart => exact ⟨0, ⟨Nat.zero_le _⟩, rfl, ⟨fun k hk => absurd hk (Nat.not_lt_zero k)⟩, HB⟩
    case round =>
      clear HB
      obtain ⟨i, HI, rfl, HZ, HB⟩ := hrel
      by_cases hlt : i < l2.length
      · obtain ⟨ad, hA, hcell⟩ := (Kd.reads_of_C (enc := Value.string) (d := (⟨#[]⟩ : ByteArray)) (h1 := fun _ => rfl) (Kd.C_below HC1.out HB.out)).2.2 (by omega)
        subst hA
        have d1 : decide ((i : Int) < (l2.length : Int)) = true := decide_eq_true (by omega)
        have d1b : decide (i < l2.length) = true := decide_eq_true hlt
        have p0 : (0 : Int) ≤ (i : Int) := by omega
        have p1 : (i : Int) < (l2.length : Int) := by omega
        have hx := hcell i hlt
        have EW : Aside0 (wrap64 ((i : Int) + 1) = ((i + 1 : Nat) : Int)) := ⟨by unfold wrap64; have := HN.out; omega⟩
        have HJ := Aside0.mk hlt
        by_cases hs : 5000 < (l2.getD i ⟨#[]⟩).size
        · have d2 : decide (5000 < ((l2.getD i ⟨#[]⟩).size : Int)) = true := decide_eq_true (by omega)
          clear hs hlt hcell HG
          generalize l2.getD i ⟨#[]⟩ = x at *
          go_wp2_with (first | (go_at_call 19; (with_reducible refine (garretlaw17_works.calls 10 true _ (Laid.below HLAID.out HB.out) HWK.out).mono ?_); rintro e wn_ ⟨rfl, hb⟩; have n0_ := Aside0.mk (below_step HB.out hb); clear HB hb; have HB := n0_; clear n0_))
          go_ret
          exact ⟨rfl, HB.out⟩
        · have d2 : decide (5000 < ((l2.getD i ⟨#[]⟩).size : Int)) = false := decide_eq_false (by omega)
          have HZ2 : Aside0 (∀ k, k < i + 1 → (l2.getD k ⟨#[]⟩).size ≤ 5000) := ⟨fun k hk => by
            rcases Nat.lt_or_ge k i with h | h
            · exact HZ.out k h
            · obtain rfl : k = i := by omega
              omega⟩
          obtain ⟨x, HXE⟩ : ∃ x, Aside0 (x = l2.getD i ⟨#[]⟩) := ⟨_, ⟨rfl⟩⟩
          rw [← HXE.out] at hx d2
          clear hs hlt hcell
          go_wp2
          rw [EW.out]
          exact ⟨⟨i + 1, ⟨HJ.out⟩, rfl, HZ2, HB⟩, by have := HJ.out; simp only [intOf, Int.toNat_natCast]; omega⟩
      · obtain rfl : i = l2.length := by have := HI.out; omega
        have d1 : decide ((l2.length : Int) < (l2.length : Int)) = false := decide_eq_false (by omega)
        have d1b : decide (l2.length < l2.length) = false := decide_eq_false (by omega)
        obtain ⟨s, r2, ok, ls, z, g1, g2, g3, g4, g5, g6, g7, g8, g9⟩ := HG.out HZ.out
        have H1 := Aside0.mk g1
        have H2 := Aside0.mk g2
        have H3 := Aside0.mk g3
        have H4 := Aside0.mk g4
        have H5 := Aside0.mk g5
        have H6 := Aside0.mk g6
        have H7 := Aside0.mk g7
        have H8 := Aside0.mk g8
        have H9 := Aside0.mk g9
        clear g1 g2 g3 g4 g5 g6 g7 g8 g9 HG HZ hlt
        go_wp2_with (first
          | (go_at_call 30; (with_reducible refine (Lends.lend_calls A2 c2 l2 _ (Kd.C_below HC1.out HB.out) HCAP.out HLEN.out).mono ?_); rintro e w1 ⟨⟨A9, c9, rfl, hc9, ho9⟩, hb⟩; have HLD := Aside0.mk (own_reads_of' (d := (⟨#[]⟩ : ByteArray)) ho9); have HC9 := Aside0.mk hc9; have HBW := Aside0.mk (below_step HB.out hb); have HC2 := Aside0.mk (Kd.C_below HC1.out HBW.out); have HLAID1 := Aside0.mk (Laid.below HLAID.out HBW.out); have HB1 := Aside0.mk (Below.refl w1.heap.size w1); clear ho9 hc9 hb HB HC1 HLAID)
          | (go_at_call 31; (with_reducible refine (path_Sort.calls A9 c9 l2 s _ (garretlaw17_PathOrders.front_C (HLD.out.below HB1.out)) (Nat.le_trans (Nat.le_succ _) HC9.out) (Laid.below HLAID1.out HB1.out) H1.out).mono ?_); rintro e wn_ ⟨v5_, rfl, hR5, hb⟩; obtain ⟨A5, c5, rfl, hc5, hC5⟩ := Kd.R_reads hR5; have HRS := Aside0.mk (garretlaw17_PathOrders.R_low hR5); have HC5 := Aside0.mk hc5; clear hR5 hC5 hc5; have n0_ := Aside0.mk (below_step HB1.out hb); clear HB1 hb; have HB1 := n0_; clear n0_)
          | (go_at_call 32; (with_reducible refine (path_Within.calls garretlaw17_PathOrders.K a0 a1 r2 ok _ (Laid.below HLAID1.out HB1.out) H2.out).mono ?_); rintro e wn_ ⟨rfl, hb⟩; have n0_ := Aside0.mk (below_step HB1.out hb); have n1_ := Aside0.mk (Kd.R_below HRS.out hb); clear HB1 HRS hb; have HB1 := n0_; have HRS := n1_; clear n0_ n1_)
          | (go_at_call 33; (with_reducible refine (garretref17_Within.calls garretlaw17_PathOrders.K a0 a1 r2 ok _ H3.out).mono ?_); rintro e wn_ ⟨rfl, hb⟩; have n0_ := Aside0.mk (below_step HB1.out hb); have n1_ := Aside0.mk (Kd.R_below HRS.out hb); clear HB1 HRS hb; have HB1 := n0_; have HRS := n1_; clear n0_ n1_)
          | (go_at_call 20; (with_reducible refine (path_Less.calls garretlaw17_PathOrders.K a0 a1 ls _ (Laid.below HLAID1.out HB1.out) H4.out).mono ?_); rintro e wn_ ⟨rfl, hb⟩; have n0_ := Aside0.mk (below_step HB1.out hb); have n1_ := Aside0.mk (Kd.R_below HRS.out hb); clear HB1 HRS hb; have HB1 := n0_; have HRS := n1_; clear n0_ n1_)
          | (go_at_call 34; (with_reducible refine (garretref17_Less.calls garretlaw17_PathOrders.K a0 a1 ls _ H5.out).mono ?_); rintro e wn_ ⟨rfl, hb⟩; have n0_ := Aside0.mk (below_step HB1.out hb); have n1_ := Aside0.mk (Kd.R_below HRS.out hb); clear HB1 HRS hb; have HB1 := n0_; have HRS := n1_; clear n0_ n1_)
          | (go_at_call 36; (with_reducible refine (garretref17_Sort.calls garretlaw17_PathOrders.K A2 c2 l2 s _ (Kd.C_below HC2.out HB1.out) HCAP.out H6.out).mono ?_); rintro e wn_ ⟨v7_, rfl, hR7, hb⟩; obtain ⟨A7, c7, rfl, hc7, hC7⟩ := Kd.R_reads hR7; have HRT := Aside0.mk hR7; have HC7 := Aside0.mk hc7; clear hR7 hC7 hc7; have n0_ := Aside0.mk (below_step HB1.out hb); have n1_ := Aside0.mk (Kd.R_below HRS.out hb); clear HB1 HRS hb; have HB1 := n0_; have HRS := n1_; clear n0_ n1_)
          | (go_at_call 35; (with_reducible refine (garretbook_SameTexts.calls garretlaw17_PathOrders.K A5 c5 s A7 c7 s true _ (garretlaw17_PathOrders.R_C HRS.out) HC5.out (garretlaw17_PathOrders.R_C HRT.out) HC7.out H7.out).mono ?_); rintro e wn_ ⟨rfl, hd⟩; have hb := hd.below; have n0_ := Aside0.mk (below_step HB1.out hb); have n1_ := Aside0.mk (Kd.R_below HRS.out hb); clear HB1 HRS hb; have HB1 := n0_; have HRS := n1_; clear n0_ n1_ HRT HC7)
          | (go_at_call 37; (with_reducible refine (Lends.kept_calls A9 c9 A2 c2 l2 _ l2.length rfl (HLD.out.below HB1.out) HC9.out HLEN.out ((garretbook_SameTexts.calls garretlaw17_PathOrders.K A9 c9 l2 A2 c2 l2 true _ (garretlaw17_PathOrders.front_C (HLD.out.below HB1.out)) (Nat.le_trans (Nat.le_succ _) HC9.out) (Kd.C_below HC2.out HB1.out) HCAP.out H8.out).mono fun e w' h_ => ⟨h_.1, h_.2.below⟩)).mono ?_); rintro e wn_ ⟨rfl, hb⟩; have n0_ := Aside0.mk (below_step HB1.out hb); have n1_ := Aside0.mk (Kd.R_below HRS.out hb); clear HB1 HRS hb; have HB1 := n0_; have HRS := n1_; clear n0_ n1_)
          | (go_at_call 38; (with_reducible refine (garretbook_SpoilTexts.calls garretlaw17_PathOrders.K (fun _ => True) _ s z w1 _ HB1.out HRS.out H9.out).mono ?_); rintro e wn_ ⟨rfl, -, hb, -⟩; clear HB1 HRS; have HB1 := Aside0.mk hb; clear hb)
          | (go_at_call 35; (with_reducible refine (garretbook_SameTexts.calls garretlaw17_PathOrders.K A9 c9 l2 A2 c2 l2 true _ (garretlaw17_PathOrders.front_C (HLD.out.below HB1.out)) (Nat.le_trans (Nat.le_succ _) HC9.out) (Kd.C_below HC2.out HB1.out) HCAP.out H8.out).mono ?_); rintro e wn_ ⟨rfl, hd⟩; have hb := hd.below; have n0_ := Aside0.mk (below_step HB1.out hb); clear HB1 hb; have HB1 := n0_; clear n0_)
          | (go_at_call 19; (with_reducible refine (garretlaw17_works.calls 10 true _ (Laid.below HLAID1.out HB1.out) HWK.out).mono ?_); rintro e wn_ ⟨rfl, hb⟩; have n0_ := Aside0.mk (below_step HB1.out hb); clear HB1 hb; have HB1 := n0_; clear n0_))
        go_ret
        exact ⟨rfl, below_step HBW.out HB1.out⟩
  · rw [if_neg hq] at h
    cases h

def garretlaw17_PathOrders.Pure : Prop := ∀ (a0 : ByteArray) (a1 : ByteArray) (l2 : List ByteArray), (a0.size ≤ 140737488351232) → (a1.size ≤ 140737488351232) → (l2.length ≤ maxLen ∧ l2.length * 16 ≤ 140737488351232 ∧ ∀ l2y ∈ l2, l2y.size ≤ 140737488351232) → garretlaw17_PathOrders.f a0 a1 l2 = some true
theorem garretlaw17_PathOrders.walk (P : garretlaw17_PathOrders.Pure) (a0 : ByteArray) (a1 : ByteArray) (A2 : Option Addr) (c2 : Nat) (l2 : List ByteArray) (w : World) (hr2 : Kd.C Kd.string w A2 l2.length l2) (hc2 : l2.length ≤ c2) (hL : Laid w) (o0 : (a0.size ≤ 140737488351232)) (o1 : (a1.size ≤ 140737488351232)) (o2 : (l2.length ≤ maxLen ∧ l2.length * 16 ≤ 140737488351232 ∧ ∀ l2y ∈ l2, l2y.size ≤ 140737488351232)) :
    Calls Tryd.prog 8 #[.string a0, .string a1, .slice A2 l2.length c2] w fun e w' => e = .returned (.bool true) ∧ Below w.heap.size w w' := by
  have h := P a0 a1 l2 o0 o1 o2
  refine (garretlaw17_PathOrders.calls a0 a1 A2 c2 l2 true w hr2 hc2 hL h).mono ?_
  rintro e w' ⟨rfl, hd⟩
  exact ⟨rfl, hd⟩
end Go.Proofs.YtcmajhdgaeploaaDoor.QPthO
