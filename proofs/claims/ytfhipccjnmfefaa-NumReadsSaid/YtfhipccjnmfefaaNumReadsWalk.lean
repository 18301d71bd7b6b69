/- NumReads: for every text (of at most 140737488351232 bytes) and all acts that can be read: the program's reader and the document's answer the same, one thing behind the other. The walk, over the two readers' common state (Rel). -/
import Derived.Test.YtfhipccjnmfefaaNumStep
import Derived.Test.YtfhipccjnmfefaaNumSame
namespace Go.Proofs.Ytfhipccjnmfefaa.QNum
open Go.RowKit Go.Proofs.YtfhipccjnmfefaaW.PrintWords Go.Proofs.YtfhipccjnmfefaaW.PrintLast Go.Proofs.YtfhipccjnmfefaaW.PrintMore Go.Proofs.Ytfhipccjnmfefaa.Same
set_option linter.unusedVariables false
set_option linter.unusedSimpArgs false

/-- What the two readers' blocks hold. -/
def Two (w0 w : World) (g g2 : Nat) (t0 : ByteArray) : Prop := ∃ s0 s1 t1 t2, Rel s0 s1 t0 t1 t2 ∧ IsS52 w0 w g s0 s1 ∧ IsS38 w0 w g2 t0 t1 t2
def StepPost (w0 : World) (g g2 : Nat) (t0 : ByteArray) (e : Ending) (w' : World) : Prop := e = .returned (.bool true) ∧ Two w0 w' g g2 t0 ∧ Below w0.heap.size w0 w'
theorem among6 (x : Int) (h0 : -9223372036854775808 ≤ x) (h1 : x < 9223372036854775808) : ∃ m, garretbook_Among.f x 6 = some m ∧ (m = 0 ∨ m = 1 ∨ m = 2 ∨ m = 3 ∨ m = 4 ∨ m = 5) := by
  unfold garretbook_Among.f
  rw [if_neg (by decide)]
  refine ⟨_, rfl, ?_⟩
  have h2 := Int.tmod_lt_of_pos x (show (0 : Int) < 6 by decide)
  have h3 := Int.lt_tmod_of_pos x (show (0 : Int) < 6 by decide)
  have hw : wrap64 (Int.tmod x 6 + 6) = Int.tmod x 6 + 6 := by unfold wrap64; omega
  rw [hw, Int.tmod_eq_emod_of_nonneg (by omega)]
  omega
theorem step_calls (g g2 : Nat) (t0 : ByteArray) (kd n : Int) (w0 w : World) (h2 : Two w0 w g g2 t0) (hne : g ≠ g2) (hB : Below w0.heap.size w0 w) (hk0 : -9223372036854775808 ≤ kd) (hk1 : kd < 9223372036854775808) (hn : n < 9223372036854775808) :
    Calls Try.prog 19 #[.pointer (some ⟨g, 0, none⟩), .pointer (some ⟨g2, 0, none⟩), .agg #[.int .i64 kd, .int .i64 n]] w (StepPost w0 g g2 t0) := by
  obtain ⟨s0, s1, t1, t2, hr, hI, hJ⟩ := h2
  obtain ⟨m, hm, hc⟩ := among6 kd hk0 hk1
  rcases hc with rfl | rfl | rfl | rfl | rfl | rfl
  · obtain ⟨r, a, b, c, d, h1, h2, h3⟩ := same_fixed (k := 20) (by omega) hr n hn
    exact (step0 20 g g2 s0 s1 t0 t1 t2 kd n r a b r t0 c d w0 w hI hJ hne hB hm h1 h2).mono fun e w' h => ⟨by rw [h.1]; simp, ⟨a, b, c, d, h3, h.2.1, h.2.2.1⟩, h.2.2.2⟩
  · obtain ⟨r, a, b, c, d, h1, h2, h3, _⟩ := same_short (k := 20) (by omega) hr n
    exact (step1 20 g g2 s0 s1 t0 t1 t2 kd n r a b r t0 c d w0 w hI hJ hne hB hm h1 h2).mono fun e w' h => ⟨by rw [h.1]; simp, ⟨a, b, c, d, h3, h.2.1, h.2.2.1⟩, h.2.2.2⟩
  · obtain ⟨r, a, b, c, d, h1, h2, h3⟩ := same_text (k := 20) (by omega) hr n
    exact (step2 20 g g2 s0 s1 t0 t1 t2 kd n r a b r t0 c d w0 w hI hJ hne hB hm h1 h2).mono fun e w' h => ⟨by rw [h.1]; simp, ⟨a, b, c, d, h3, h.2.1, h.2.2.1⟩, h.2.2.2⟩
  · obtain ⟨r, a, b, c, d, h1, h2, h3, _⟩ := same_bytes hr n hn
    exact (step3 20 g g2 s0 s1 t0 t1 t2 kd n r a b r t0 c d w0 w hI hJ hne hB hm h1 h2).mono fun e w' h => ⟨by rw [h.1]; simp, ⟨a, b, c, d, h3, h.2.1, h.2.2.1⟩, h.2.2.2⟩
  · exact (step4 20 g g2 s0 s1 t0 t1 t2 kd n _ _ _ _ _ w0 w hI hJ hne hB hm (fail_told s0 s1 n) (rfail t0 t1 t2 n)).mono fun e w' h => ⟨h.1, ⟨_, _, _, _, hr.fail n, h.2.1, h.2.2.1⟩, h.2.2.2⟩
  · obtain ⟨r, a, b, c, d, h1, h2, h3⟩ := same_end hr
    exact (step5 20 g g2 s0 s1 t0 t1 t2 kd n r a b r t0 c d w0 w hI hJ hne hB hm h1 h2).mono fun e w' h => ⟨by rw [h.1]; simp, ⟨a, b, c, d, h3, h.2.1, h.2.2.1⟩, h.2.2.2⟩

theorem Two.drew {w0 w : World} {g g2 : Nat} {t0 : ByteArray} (h : Two w0 w g g2 t0) : Two w0 w.drew g g2 t0 := by
  obtain ⟨s0, s1, t1, t2, hr, hI, hJ⟩ := h
  exact ⟨s0, s1, t1, t2, hr, IsS52.drew hI, IsS38.drew hJ⟩
set_option maxHeartbeats 2000000 in
set_option maxRecDepth 100000 in
theorem NumReads_walk (a0 : ByteArray) (A1 : Option Addr) (c1 : Nat) (l1 : List S41) (w : World) (hr1 : Kd.C k41 w A1 l1.length l1) (hc1 : l1.length ≤ c1) (o0 : a0.size ≤ 140737488351232)
    (o1 : l1.length ≤ maxLen ∧ l1.length * 16 ≤ 140737488351232 ∧ ∀ l1y ∈ l1, ((Lit.int .i64 l1y.f0).wf = true) ∧ ((Lit.int .i64 l1y.f1).wf = true)) :
    Calls Try.prog 5 #[.string a0, .slice A1 l1.length c1] w fun e w' => e = .returned (.bool true) ∧ Below w.heap.size w w' := by
  have HO := Aside0.mk o1.2.2
  have hlen : l1.length ≤ 140737488351232 := by omega
  clear o1
  have HR := Aside0.mk hr1
  clear hr1
  have hW := works_told
  have HW := Aside0.mk hW
  clear hW
  go_enter Try.func5, Try.ntmps5
  go_wp2_with (first
    | (go_at_call 15; refine (num_Read.calls a0 a0 0 w _ (Below.refl _ _) rfl).mono ?_; rintro e w1 ⟨g, rfl, hI1, hB1, hB2⟩; have HI1 := Aside0.mk hI1; have HB1 := Aside0.mk hB1; clear hI1 hB1 hB2)
    | (go_at_call 14; refine (garretlaw01_works.calls 10 true _ HW.out).mono ?_; rintro e w2 ⟨rfl, hB3⟩; have HB3 := Aside0.mk hB3; clear hB3))
  have hg : g < w1.heap.size := IsS52.lt HI1.out
  have HN := Aside0.mk (show g ≠ w1.heap.size by omega)
  have hJ := IsS38.below (IsS38.new w w1 a0 0 0 HB1.out) HB3.out
  have hI := IsS52.below (IsS52.alloc HI1.out (.cells #[.string a0, .int .i64 0, .int .i64 0] 38)) HB3.out
  have hB := below_step (below_alloc HB1.out (.cells #[.string a0, .int .i64 0, .int .i64 0] 38)) HB3.out
  have HT := Aside0.mk (show Two w w2 g w1.heap.size a0 from ⟨a0, 0, 0, 0, ⟨rfl, by decide, by omega, o0, rfl⟩, hI, hJ⟩)
  have HB := Aside0.mk hB
  clear hI hJ hB HB1 HB3 HI1 hg
  generalize w1.heap.size = g2 at *
  go_loopw [7] (fun v wr => ∃ i : Nat, i ≤ l1.length ∧ v = .int .i64 i ∧ Aside0 (Two w wr g g2 a0) ∧ Aside0 (Below w.heap.size w wr)) (fun v _ => l1.length - (intOf v).toNat)
  case atStart => exact ⟨0, Nat.zero_le _, rfl, HT, HB⟩
  case round =>
    clear HT HB
    obtain ⟨i, hi, rfl, HT, HB⟩ := hrel
    by_cases hlt : i < l1.length
    · by_cases h100 : (i : Int) < 100
      · obtain ⟨ad, e, hx0, hx1⟩ := at_T41 HR.out i (by omega) (by omega)
        cases e
        replace hx0 := (HB.out.cell (World.block_lt_of_cell? w _ hx0)).trans hx0
        replace hx1 := (HB.out.cell (World.block_lt_of_cell? w _ hx1)).trans hx1
        simp only [Int.toNat_natCast] at hx0 hx1
        have hm : rd_T41 l1 i ∈ l1 := by
          unfold rd_T41
          rw [Int.toNat_natCast, List.getD_eq_getElem?_getD, List.getElem?_eq_getElem hlt]
          exact List.getElem_mem hlt
        obtain ⟨hb0, hb1⟩ := HO.out _ hm
        clear hm
        obtain ⟨k0, k1⟩ : -9223372036854775808 ≤ (rd_T41 l1 i).f0 ∧ (rd_T41 l1 i).f0 < 9223372036854775808 := by
          simp [Lit.wf, IntKind.min, IntKind.max, IntKind.bits, IntKind.signed] at hb0; omega
        have n1 : (rd_T41 l1 i).f1 < 9223372036854775808 := by
          simp [Lit.wf, IntKind.min, IntKind.max, IntKind.bits, IntKind.signed] at hb1; omega
        have K0 := Aside0.mk k0
        have K1 := Aside0.mk k1
        have N1 := Aside0.mk n1
        clear hb0 hb1 k0 k1 n1
        generalize (rd_T41 l1 i).f0 = kd at *
        generalize (rd_T41 l1 i).f1 = n at *
        go_wp2
        go_region_with (first
          | (go_at_call 19; refine (step_calls g g2 a0 kd n w _ (Two.drew HT.out) HN.out (below_drew1 HB.out) K0.out K1.out N1.out).mono ?_; rintro e w3 ⟨rfl, ⟨s0, s1, t1, t2, hrel, hI, hJ⟩, hB⟩; obtain rfl := hrel.code; obtain ⟨cI, cJ⟩ := And.intro hI hJ; have HE := cellS38_2 cJ.1; have HS := Aside0.mk hrel; have HI3 := Aside0.mk cI; have HJ3 := Aside0.mk cJ; have HB3 := Aside0.mk hB; clear hI hJ hB hrel cI cJ)
          | (go_at_call 18; refine (num_Reader_Left.calls g s0 s1 (s0.size : Int) s0 s1 w _ HI3.out HB3.out rfl).mono ?_; rintro e w4 ⟨rfl, hI, hB, hK⟩; have HI4 := Aside0.mk hI; have HB4 := Aside0.mk hB; have HJ4 := Aside0.mk (lift52 HJ3.out hK (Ne.symm HN.out)); clear hI hB hK)
          | (go_at_call 20; refine (garretref01_Reader_Left.calls g2 a0 t1 s1 (s0.size : Int) a0 t1 s1 w _ HJ4.out HB4.out (rleft HS.out)).mono ?_; rintro e w5 ⟨rfl, hJ, hB, hK⟩; have HI5 := Aside0.mk (lift38 HI4.out hK HN.out); have HB5 := Aside0.mk hB; have HE5 := cellS38_2 hJ.1; have HJ5 := Aside0.mk hJ; clear hJ hB hK)
          | (go_at_call 17; refine (num_Reader_Err.calls g s0 s1 s1 s0 s1 w _ HI5.out HB5.out rfl).mono ?_; rintro e w6 ⟨rfl, hI, hB, hK⟩; have HI6 := Aside0.mk hI; have HB6 := Aside0.mk hB; have HJ6 := lift52 HJ5.out hK (Ne.symm HN.out); have HE6 := cellS38_2 HJ6.1; have HJ6 := Aside0.mk HJ6; clear hI hB hK))
        all_goals
          go_wp2
          go_roundw
          case rel => exact ⟨i + 1, by omega, by go_num, ⟨s0, s1, t1, s1, HS.out, HI6.out, HJ6.out⟩, HB6⟩
          case measure => simp [intOf]; omega
      · go_wp2
        go_ret
        exact ⟨rfl, HB.out⟩
    · go_wp2
      go_ret
      exact ⟨rfl, HB.out⟩
end Go.Proofs.Ytfhipccjnmfefaa.QNum
