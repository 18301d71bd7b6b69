/- Two neighbours of a row, each in order, merged: walked. -/
import Derived.Test.YtcmajhdgaeploaaDoorYStabIns
import Derived.Test.YtcmajhdgaeploaaDoorYStabSwap
namespace Go.Proofs.YtcmajhdgaeploaaDoor.Stab
open Go Go.RowKit Go.Proofs.YtcmajhdgaeploaaDoorW.PrintWords Go.Proofs.YtcmajhdgaeploaaDoorW.PrintLast Go.Proofs.YtcmajhdgaeploaaDoorW.PrintMore
set_option linter.unusedVariables false
set_option linter.unusedSimpArgs false
/-- What a merge tells. -/
def SymPost (o : Int → Int → Int) (B gp n cap : Nat) (w : World) (xs : List Int) (a b : Nat) : Ending → World → Prop := fun e w' => e = .returned (.tuple #[]) ∧ ∃ ys, Mrg o a b xs ys ∧ Row B gp n cap w' ys ∧ Kp B gp w w'
/-- What the merge is to do, of stretches of at most d numbers. -/
def SymTold (o : Int → Int → Int) (ok : Int → Prop) (B gp n cap : Nat) (L : Addr) (d : Nat) : Prop := ∀ (a m b : Nat) (w : World) (xs : List Int), b - a ≤ d → a < m → m < b → b ≤ n → Row B gp n cap w xs → Asks gp L B w o ok → AllOk ok xs → Srt o a m xs → Srt o m b xs →
  Calls Tryd.prog 86 #[.slice (some ⟨gp, 0, none⟩) n cap, .int .i64 (a : Int), .int .i64 (m : Int), .int .i64 (b : Int), Ord L] w fun e w' =>
    e = .returned (.tuple #[]) ∧ ∃ ys, Mrg o a b xs ys ∧ Row B gp n cap w' ys ∧ Kp B gp w w'
theorem half {i j h n : Nat} (hh : h = (i + j) / 2) (hi : i ≤ n) (hj : j ≤ n) (hn : n ≤ 1000000000) : wrap64 (IntKind.u64.wrap (wrap64 ((i : Int) + (j : Int))) / 2) = (h : Int) := by
  have e1 : wrap64 ((i : Int) + (j : Int)) = ((i + j : Nat) : Int) := (w64 (by omega) (by omega)).trans (by omega)
  have e2 : IntKind.u64.wrap ((i + j : Nat) : Int) = ((i + j : Nat) : Int) := IntWalk.u64_in _ (by omega)
  rw [e1, e2]
  exact (w64 (by omega) (by omega)).trans (by omega)
set_option maxHeartbeats 4000000 in
set_option maxRecDepth 100000 in
/-- One number ahead of others in order. -/
theorem sym_a {o : Int → Int → Int} {ok : Int → Prop} (hno : Nice o) (B gp n cap a b : Nat) (L : Addr) (w : World) (xs : List Int) (hr : Row B gp n cap w xs) (hab : a + 1 < b) (hbn : b ≤ n) (hn : n ≤ 1000000000) (ha : Asks gp L B w o ok) (hok : AllOk ok xs) (hs : Srt o (a + 1) b xs) :
    Calls Tryd.prog 86 #[.slice (some ⟨gp, 0, none⟩) n cap, .int .i64 (a : Int), .int .i64 ((a + 1 : Nat) : Int), .int .i64 (b : Int), Ord L] w fun e w' =>
      e = .returned (.tuple #[]) ∧ ∃ ys, Mrg o a b xs ys ∧ Row B gp n cap w' ys ∧ Kp B gp w w' := by
  have HR := Aside0.mk hr
  have HX := Aside0.mk hr.len
  have HB := Aside0.mk hr.base
  have HK := Aside0.mk (Kp.refl B gp w)
  have HAB := Aside0.mk hab
  have HBN := Aside0.mk hbn
  have HN := Aside0.mk hn
  have HA := Aside0.mk ha
  have HOK := Aside0.mk hok
  have HNO := Aside0.mk hno
  have HSR := Aside0.mk hs
  obtain ⟨m, HM⟩ : ∃ m, Aside0 (m = a + 1) := ⟨_, ⟨rfl⟩⟩
  rw [← HM.out]
  have c1 : (wrap64 ((m : Int) - (a : Int)) == 1) = true := by have := HM.out; rw [w64 (by omega) (by omega), beq_iff_eq]; omega
  clear hr hab hbn hn ha hok hno hs
  go_enter Tryd.func86, Tryd.ntmps86
  go_wp2
  go_loopw [10, 11] (fun v1 v2 W => ∃ (i j : Nat), v1 = .int .i64 (i : Int) ∧ v2 = .int .i64 (j : Int) ∧ Aside0 (m ≤ i ∧ i ≤ j ∧ j ≤ b) ∧ Aside0 (Sch (fun k => o (g xs k) (g xs a) < 0) m b i j) ∧ Aside0 (Row B gp n cap W xs) ∧ Aside0 (Kp B gp w W)) (fun v1 v2 _ => (intOf v2).toNat - (intOf v1).toNat)
  case atStart => exact ⟨m, b, rfl, rfl, ⟨by have := HM.out; have := HAB.out; omega⟩, ⟨Sch.begin_ _ _ _⟩, HR, HK⟩
  case round =>
    clear HR HK
    obtain ⟨i, j, rfl, rfl, HI, HS, HR, HK⟩ := hrel
    have HD : Aside0 (Down (fun k => o (g xs k) (g xs a) < 0) m b) := ⟨by rw [HM.out]; exact down_a HNO.out HSR.out _⟩
    by_cases hlt : i < j
    · have d1 : decide ((i : Int) < (j : Int)) = true := decide_eq_true (by omega)
      have d2 : decide (i < j) = true := decide_eq_true hlt
      obtain ⟨h, HH⟩ : ∃ h, Aside0 (h = (i + j) / 2) := ⟨_, ⟨rfl⟩⟩
      have HHB : Aside0 (i ≤ h ∧ h < j ∧ h < n ∧ a < n) := ⟨by have := HH.out; have := HI.out; have := HBN.out; have := HM.out; omega⟩
      have E1 : Aside0 (wrap64 (IntKind.u64.wrap (wrap64 ((i : Int) + (j : Int))) / 2) = (h : Int)) := ⟨half HH.out (by have := HI.out; have := HBN.out; omega) (by have := HI.out; have := HBN.out; omega) HN.out⟩
      have E2 : Aside0 (wrap64 ((h : Int) + 1) = ((h + 1 : Nat) : Int)) := ⟨(w64 (by omega) (by have := HHB.out; have := HN.out; omega)).trans (by omega)⟩
      obtain ⟨ch, fh⟩ := HR.out.cell h HHB.out.2.2.1
      obtain ⟨ca, fa⟩ := HR.out.cell a HHB.out.2.2.2
      have p0 : (0 : Int) ≤ (h : Int) := Int.natCast_nonneg _
      have p1 : (h : Int) < (n : Int) := by have := HHB.out; omega
      have q0 : (0 : Int) ≤ (a : Int) := Int.natCast_nonneg _
      have q1 : (a : Int) < (n : Int) := by have := HHB.out; omega
      have HOK2 : Aside0 (ok (g xs h) ∧ ok (g xs a)) := ⟨HOK.out.at_ (by rw [HX.out]; exact HHB.out.2.2.1), HOK.out.at_ (by rw [HX.out]; exact HHB.out.2.2.2)⟩
      clear hlt
      go_wp2
      rw [E1.out]
      by_cases hc : o (g xs h) (g xs a) < 0
      · have hcd : decide (o (g xs h) (g xs a) < 0) = true := decide_eq_true hc
        have HC := Aside0.mk hc
        clear hc
        go_quiet ((go_at_call 58; exact HA.out.at_ HK.out _ _ _ HOK2.out.1 HOK2.out.2))
        go_wp2
        rw [E2.out]
        exact ⟨⟨h + 1, j, rfl, rfl, ⟨by have := HHB.out; have := HI.out; omega⟩, ⟨HS.out.up HD.out (by have := HHB.out; have := HI.out; omega) HC.out⟩, ⟨HR.out.drewN _⟩, ⟨HK.out.drewN _⟩⟩, by simp [intOf]; have := HHB.out; omega⟩
      · have hcd : decide (o (g xs h) (g xs a) < 0) = false := decide_eq_false hc
        have HC := Aside0.mk hc
        clear hc
        go_quiet ((go_at_call 58; exact HA.out.at_ HK.out _ _ _ HOK2.out.1 HOK2.out.2))
        go_wp2
        exact ⟨⟨i, h, rfl, rfl, ⟨by have := HHB.out; have := HI.out; omega⟩, ⟨HS.out.down HD.out (by have := HHB.out; have := HI.out; omega) (fun e => by have := HC.out; omega)⟩, ⟨HR.out.drewN _⟩, ⟨HK.out.drewN _⟩⟩, by simp [intOf]; have := HHB.out; omega⟩
    · have d1 : decide ((i : Int) < (j : Int)) = false := decide_eq_false (by omega)
      have d2 : decide (i < j) = false := decide_eq_false hlt
      obtain rfl : i = j := by have := HI.out; omega
      clear hlt
      obtain ⟨t, HT⟩ : ∃ t, Aside0 (t = i - 1) := ⟨_, ⟨rfl⟩⟩
      have E1 : Aside0 (wrap64 ((i : Int) - 1) = (t : Int)) := ⟨by have := HT.out; have := HI.out; have := HBN.out; have := HN.out; have := HM.out; exact (w64 (by omega) (by omega)).trans (by omega)⟩
      go_wp2
      go_loopw [13] (fun v W => ∃ (k : Nat) (ys : List Int), v = .int .i64 (k : Int) ∧ Aside0 (a ≤ k ∧ k ≤ t) ∧ Aside0 (Mv a k xs ys) ∧ Aside0 (Row B gp n cap W ys) ∧ Aside0 (Kp B gp w W)) (fun v _ => t - (intOf v).toNat)
      case atStart => exact ⟨a, xs, rfl, ⟨by have := HT.out; have := HI.out; have := HM.out; omega⟩, ⟨Mv.begin_ _ _⟩, HR, HK⟩
      case round =>
        clear HR HK
        obtain ⟨k, ys, rfl, HKB, HMV, HR, HK⟩ := hrel
        by_cases hlt : k < t
        · have d1 : decide ((k : Int) < wrap64 ((i : Int) - 1)) = true := decide_eq_true (by rw [E1.out]; omega)
          have d2 : decide ((k : Int) < (t : Int)) = true := decide_eq_true (by omega)
          have HLT := Aside0.mk hlt
          obtain ⟨q, HQ⟩ : ∃ q, Aside0 (q = k + 1) := ⟨_, ⟨rfl⟩⟩
          have HPQ : Aside0 (k < n ∧ q < n ∧ q ≠ k) := ⟨by have := HLT.out; have := HT.out; have := HI.out; have := HBN.out; have := HQ.out; omega⟩
          obtain ⟨cp, fp⟩ := HR.out.cell k HPQ.out.1
          obtain ⟨cq, fq⟩ := HR.out.cell q HPQ.out.2.1
          obtain ⟨cq2, fq2⟩ := HR.out.cell2 k q (g ys q) HPQ.out.1 HPQ.out.2.1 HPQ.out.2.2
          have e1 : wrap64 ((k : Int) + 1) = (q : Int) := by have := HQ.out; have := HPQ.out; have := HN.out; exact (w64 (by omega) (by omega)).trans (by omega)
          have e2 : IntKind.i64.wrap ((k : Int) + 1) = (q : Int) := by have := HQ.out; have := HPQ.out; have := HN.out; exact (IntWalk.i64_in _ (by omega)).trans (by omega)
          have EQ := Aside0.mk e1
          have p0 : (0 : Int) ≤ (k : Int) := Int.natCast_nonneg _
          have p1 : (k : Int) < (n : Int) := by have := HPQ.out; omega
          have q0 : (0 : Int) ≤ (q : Int) := Int.natCast_nonneg _
          have q1 : (q : Int) < (n : Int) := by have := HPQ.out; omega
          clear hlt
          go_wp2
          go_region
          all_goals go_wp2
          all_goals ((try rw [EQ.out]); refine ⟨⟨q, sw ys k q, rfl, ⟨by have := HQ.out; have := HLT.out; have := HKB.out; omega⟩, ⟨?_⟩, ⟨(HR.out.swap k q).drew⟩, ⟨((HK.out.set_ HB.out k _).set_ HB.out q _).drew⟩⟩, by simp [intOf]; have := HQ.out; have := HLT.out; omega⟩)
          all_goals (rw [HQ.out]; exact HMV.out.step HKB.out.1 (by rw [HX.out]; have := HQ.out; have := HPQ.out; omega))
        · have d1 : decide ((k : Int) < wrap64 ((i : Int) - 1)) = false := decide_eq_false (by rw [E1.out]; omega)
          have d2 : decide ((k : Int) < (t : Int)) = false := decide_eq_false (by omega)
          have HKT : Aside0 (k = i - 1) := ⟨by have := HKB.out; have := HT.out; omega⟩
          clear hlt
          go_wp2
          (try simp only [Exit.inBlock, Exit.then])
          refine bodyPost_ret (results_none rfl _ _ _) rfl ?_
          refine ⟨rfl, ys, ?_, HR.out, HK.out⟩
          have hi := HI.out
          have hs := HS.out
          rw [HM.out] at hi hs
          exact merge_a HNO.out HSR.out hi.1 hi.2.2 hs (by rw [← HKT.out]; exact HMV.out)
/-- Where the last one is not ahead. -/
def Pb (o : Int → Int → Int) (xs : List Int) (m k : Nat) : Prop := ¬ o (g xs m) (g xs k) < 0
/-- Where the two that are held against each other stand in order. -/
def Pm (o : Int → Int → Int) (xs : List Int) (p c : Nat) : Prop := ¬ o (g xs (p - c)) (g xs c) < 0
set_option maxHeartbeats 4000000 in
set_option maxRecDepth 100000 in
/-- One number behind others in order. -/
theorem sym_b {o : Int → Int → Int} {ok : Int → Prop} (hno : Nice o) (B gp n cap a m : Nat) (L : Addr) (w : World) (xs : List Int) (hr : Row B gp n cap w xs) (ham : a + 1 < m) (hmn : m + 1 ≤ n) (hn : n ≤ 1000000000) (ha : Asks gp L B w o ok) (hok : AllOk ok xs) (hs : Srt o a m xs) :
    Calls Tryd.prog 86 #[.slice (some ⟨gp, 0, none⟩) n cap, .int .i64 (a : Int), .int .i64 (m : Int), .int .i64 ((m + 1 : Nat) : Int), Ord L] w fun e w' =>
      e = .returned (.tuple #[]) ∧ ∃ ys, Mrg o a (m + 1) xs ys ∧ Row B gp n cap w' ys ∧ Kp B gp w w' := by
  have HR := Aside0.mk hr
  have HX := Aside0.mk hr.len
  have HB := Aside0.mk hr.base
  have HK := Aside0.mk (Kp.refl B gp w)
  have HAM := Aside0.mk ham
  have HMN := Aside0.mk hmn
  have HN := Aside0.mk hn
  have HA := Aside0.mk ha
  have HOK := Aside0.mk hok
  have HNO := Aside0.mk hno
  have HSR := Aside0.mk hs
  obtain ⟨b, HM⟩ : ∃ b, Aside0 (b = m + 1) := ⟨_, ⟨rfl⟩⟩
  rw [← HM.out]
  have c0 : (wrap64 ((m : Int) - (a : Int)) == 1) = false := by rw [w64 (by omega) (by omega), beq_eq_false_iff_ne]; omega
  have c1 : (wrap64 ((b : Int) - (m : Int)) == 1) = true := by have := HM.out; rw [w64 (by omega) (by omega), beq_iff_eq]; omega
  clear hr ham hmn hn ha hok hno hs
  go_enter Tryd.func86, Tryd.ntmps86
  go_wp2
  go_loopw [14, 15] (fun v1 v2 W => ∃ (i j : Nat), v1 = .int .i64 (i : Int) ∧ v2 = .int .i64 (j : Int) ∧ Aside0 (a ≤ i ∧ i ≤ j ∧ j ≤ m) ∧ Aside0 (Sch (Pb o xs m) a m i j) ∧ Aside0 (Row B gp n cap W xs) ∧ Aside0 (Kp B gp w W)) (fun v1 v2 _ => (intOf v2).toNat - (intOf v1).toNat)
  case atStart => exact ⟨a, m, rfl, rfl, ⟨by have := HAM.out; omega⟩, ⟨Sch.begin_ _ _ _⟩, HR, HK⟩
  case round =>
    clear HR HK
    obtain ⟨i, j, rfl, rfl, HI, HS, HR, HK⟩ := hrel
    have HD : Aside0 (Down (Pb o xs m) a m) := ⟨down_b HNO.out HSR.out _⟩
    by_cases hlt : i < j
    · have d1 : decide ((i : Int) < (j : Int)) = true := decide_eq_true (by omega)
      have d2 : decide (i < j) = true := decide_eq_true hlt
      obtain ⟨h, HH⟩ : ∃ h, Aside0 (h = (i + j) / 2) := ⟨_, ⟨rfl⟩⟩
      have HHB : Aside0 (i ≤ h ∧ h < j ∧ h < n ∧ m < n) := ⟨by have := HH.out; have := HI.out; have := HMN.out; omega⟩
      have E1 : Aside0 (wrap64 (IntKind.u64.wrap (wrap64 ((i : Int) + (j : Int))) / 2) = (h : Int)) := ⟨half HH.out (by have := HI.out; have := HMN.out; omega) (by have := HI.out; have := HMN.out; omega) HN.out⟩
      have E2 : Aside0 (wrap64 ((h : Int) + 1) = ((h + 1 : Nat) : Int)) := ⟨(w64 (by omega) (by have := HHB.out; have := HN.out; omega)).trans (by omega)⟩
      obtain ⟨ch, fh⟩ := HR.out.cell h HHB.out.2.2.1
      obtain ⟨ca, fa⟩ := HR.out.cell m HHB.out.2.2.2
      have p0 : (0 : Int) ≤ (h : Int) := Int.natCast_nonneg _
      have p1 : (h : Int) < (n : Int) := by have := HHB.out; omega
      have q0 : (0 : Int) ≤ (m : Int) := Int.natCast_nonneg _
      have q1 : (m : Int) < (n : Int) := by have := HHB.out; omega
      have HOK2 : Aside0 (ok (g xs m) ∧ ok (g xs h)) := ⟨HOK.out.at_ (by rw [HX.out]; exact HHB.out.2.2.2), HOK.out.at_ (by rw [HX.out]; exact HHB.out.2.2.1)⟩
      clear hlt
      go_wp2
      rw [E1.out]
      by_cases hc : o (g xs m) (g xs h) < 0
      · have hcd : decide (o (g xs m) (g xs h) < 0) = true := decide_eq_true hc
        have HC := Aside0.mk hc
        clear hc
        go_quiet ((go_at_call 58; exact HA.out.at_ HK.out _ _ _ HOK2.out.1 HOK2.out.2))
        go_wp2
        exact ⟨⟨i, h, rfl, rfl, ⟨by have := HHB.out; have := HI.out; omega⟩, ⟨HS.out.down HD.out (by have := HHB.out; have := HI.out; omega) (fun e => absurd HC.out e)⟩, ⟨HR.out.drewN _⟩, ⟨HK.out.drewN _⟩⟩, by simp [intOf]; have := HHB.out; omega⟩
      · have hcd : decide (o (g xs m) (g xs h) < 0) = false := decide_eq_false hc
        have HC := Aside0.mk hc
        clear hc
        go_quiet ((go_at_call 58; exact HA.out.at_ HK.out _ _ _ HOK2.out.1 HOK2.out.2))
        go_wp2
        rw [E2.out]
        exact ⟨⟨h + 1, j, rfl, rfl, ⟨by have := HHB.out; have := HI.out; omega⟩, ⟨HS.out.up HD.out (by have := HHB.out; have := HI.out; omega) (show Pb o xs m h from fun e => by have := HC.out; omega)⟩, ⟨HR.out.drewN _⟩, ⟨HK.out.drewN _⟩⟩, by simp [intOf]; have := HHB.out; omega⟩
    · have d1 : decide ((i : Int) < (j : Int)) = false := decide_eq_false (by omega)
      have d2 : decide (i < j) = false := decide_eq_false hlt
      obtain rfl : i = j := by have := HI.out; omega
      clear hlt
      go_wp2
      go_loopw [17] (fun v W => ∃ (k : Nat) (ys : List Int), v = .int .i64 (k : Int) ∧ Aside0 (i ≤ k ∧ k ≤ m) ∧ Aside0 (Mw m k xs ys) ∧ Aside0 (Row B gp n cap W ys) ∧ Aside0 (Kp B gp w W)) (fun v _ => (intOf v).toNat)
      case atStart => exact ⟨m, xs, rfl, ⟨by have := HI.out; omega⟩, ⟨Mw.begin_ _ _⟩, HR, HK⟩
      case round =>
        clear HR HK
        obtain ⟨k, ys, rfl, HKB, HMV, HR, HK⟩ := hrel
        by_cases hlt : i < k
        · have d1 : decide ((i : Int) < (k : Int)) = true := decide_eq_true (by omega)
          have d2 : decide (i < k) = true := decide_eq_true hlt
          have HLT := Aside0.mk hlt
          obtain ⟨q, HQ⟩ : ∃ q, Aside0 (k = q + 1) := ⟨k - 1, ⟨by omega⟩⟩
          have HPQ : Aside0 (k < n ∧ q < n ∧ q ≠ k) := ⟨by have := HLT.out; have := HKB.out; have := HMN.out; have := HQ.out; omega⟩
          obtain ⟨cp, fp⟩ := HR.out.cell k HPQ.out.1
          obtain ⟨cq, fq⟩ := HR.out.cell q HPQ.out.2.1
          obtain ⟨cq2, fq2⟩ := HR.out.cell2 k q (g ys q) HPQ.out.1 HPQ.out.2.1 HPQ.out.2.2
          have e1 : wrap64 ((k : Int) - 1) = (q : Int) := by have := HQ.out; have := HPQ.out; have := HN.out; exact (w64 (by omega) (by omega)).trans (by omega)
          have e2 : IntKind.i64.wrap ((k : Int) - 1) = (q : Int) := by have := HQ.out; have := HPQ.out; have := HN.out; exact (IntWalk.i64_in _ (by omega)).trans (by omega)
          have EQ := Aside0.mk e1
          have p0 : (0 : Int) ≤ (k : Int) := Int.natCast_nonneg _
          have p1 : (k : Int) < (n : Int) := by have := HPQ.out; omega
          have q0 : (0 : Int) ≤ (q : Int) := Int.natCast_nonneg _
          have q1 : (q : Int) < (n : Int) := by have := HPQ.out; omega
          clear hlt
          go_wp2
          go_region
          all_goals go_wp2
          all_goals ((try rw [EQ.out]); refine ⟨⟨q, sw ys k q, rfl, ⟨by have := HQ.out; have := HLT.out; have := HKB.out; omega⟩, ⟨?_⟩, ⟨(HR.out.swap k q).drew⟩, ⟨((HK.out.set_ HB.out k _).set_ HB.out q _).drew⟩⟩, by simp [intOf]; have := HQ.out; have := HLT.out; omega⟩)
          all_goals (have hq : q = k - 1 := (by have := HQ.out; omega); rw [hq]; exact HMV.out.step (by have := HLT.out; omega) HKB.out.2 (by rw [HX.out]; have := HMN.out; omega))
        · have d1 : decide ((i : Int) < (k : Int)) = false := decide_eq_false (by omega)
          have d2 : decide (i < k) = false := decide_eq_false hlt
          have HKT : Aside0 (k = i) := ⟨by have := HKB.out; omega⟩
          clear hlt
          go_wp2
          (try simp only [Exit.inBlock, Exit.then])
          refine bodyPost_ret (results_none rfl _ _ _) rfl ?_
          refine ⟨rfl, ys, ?_, HR.out, HK.out⟩
          have hi := HI.out
          have hs := HS.out
          rw [HM.out]
          exact merge_b HNO.out HSR.out hi.1 hi.2.2 (show Sch (fun k => ¬ o (g xs m) (g xs k) < 0) a m i i from hs) (by rw [← HKT.out]; exact HMV.out)
theorem rotd_triv {a m b : Nat} (xs : List Int) (h : a = m ∨ b = m) (h1 : a ≤ m) (h2 : m ≤ b) : Rotd a m b xs xs := by
  refine ⟨List.Perm.refl _, fun _ _ => rfl, fun k p q => ?_⟩
  unfold tgt
  rcases h with rfl | rfl
  · rw [if_pos (by omega)]; congr 1; omega
  · rw [if_neg (by omega)]; congr 1; omega
set_option maxHeartbeats 8000000 in
set_option maxRecDepth 100000 in
/-- The common case: a cut, a turn, and both halves. -/
theorem sym_g {o : Int → Int → Int} {ok : Int → Prop} (hno : Nice o) (B gp n cap a m b d : Nat) (L : Addr) (w : World) (xs : List Int) (hI : SymTold o ok B gp n cap L d) (hd : b - a ≤ d + 1) (hr : Row B gp n cap w xs) (ham : a + 1 < m) (hmb : m + 1 < b) (hbn : b ≤ n) (hn : n ≤ 1000000000) (ha : Asks gp L B w o ok) (hok : AllOk ok xs) (hs1 : Srt o a m xs) (hs2 : Srt o m b xs) :
    Calls Tryd.prog 86 #[.slice (some ⟨gp, 0, none⟩) n cap, .int .i64 (a : Int), .int .i64 (m : Int), .int .i64 (b : Int), Ord L] w fun e w' =>
      e = .returned (.tuple #[]) ∧ ∃ ys, Mrg o a b xs ys ∧ Row B gp n cap w' ys ∧ Kp B gp w w' := by
  have HR := Aside0.mk hr
  have HX := Aside0.mk hr.len
  have HB := Aside0.mk hr.base
  have HK := Aside0.mk (Kp.refl B gp w)
  have HAM := Aside0.mk (show a + 1 < m ∧ m + 1 < b ∧ b ≤ n ∧ n ≤ 1000000000 from ⟨ham, hmb, hbn, hn⟩)
  have HA := Aside0.mk ha
  have HOK := Aside0.mk hok
  have HNO := Aside0.mk hno
  have HSR := Aside0.mk (And.intro hs1 hs2)
  have HIH := Aside0.mk hI
  have HDD := Aside0.mk hd
  obtain ⟨mid, HMID⟩ : ∃ x, Aside0 (x = (a + b) / 2) := ⟨_, ⟨rfl⟩⟩
  obtain ⟨nn, HNN⟩ : ∃ x, Aside0 (x = mid + m) := ⟨_, ⟨rfl⟩⟩
  obtain ⟨p, HP⟩ : ∃ x, Aside0 (nn = x + 1) := ⟨nn - 1, ⟨by have := HNN.out; omega⟩⟩
  obtain ⟨lo, HLO⟩ : ∃ x, Aside0 (x = lo0 a m b) := ⟨_, ⟨rfl⟩⟩
  obtain ⟨hi, HHI⟩ : ∃ x, Aside0 (x = hi0 a m b) := ⟨_, ⟨rfl⟩⟩
  have HLH : Aside0 (a ≤ lo ∧ lo ≤ hi ∧ hi ≤ m ∧ hi ≤ mid ∧ nn - b ≤ lo ∧ nn ≤ lo + b ∧ a < mid ∧ mid < b) := ⟨by
    have := lohi a m b (by omega) (by omega)
    rw [← HLO.out, ← HHI.out, ← HMID.out, ← HNN.out] at this
    have := HMID.out
    omega⟩
  have c0 : (wrap64 ((m : Int) - (a : Int)) == 1) = false := by rw [w64 (by omega) (by omega), beq_eq_false_iff_ne]; omega
  have c1 : (wrap64 ((b : Int) - (m : Int)) == 1) = false := by rw [w64 (by omega) (by omega), beq_eq_false_iff_ne]; omega
  have E1 : Aside0 (wrap64 (IntKind.u64.wrap (wrap64 ((a : Int) + (b : Int))) / 2) = (mid : Int)) := ⟨half HMID.out (by omega) (by omega) hn⟩
  have E2 : Aside0 (wrap64 ((mid : Int) + (m : Int)) = (nn : Int)) := ⟨by have := HNN.out; have := HLH.out; exact (w64 (by omega) (by omega)).trans (by omega)⟩
  have E3 : Aside0 (wrap64 ((nn : Int) - 1) = (p : Int)) := ⟨by have := HNN.out; have := HP.out; have := HLH.out; exact (w64 (by omega) (by omega)).trans (by omega)⟩
  have HC0 : (decide ((mid : Int) < (m : Int)) = true ∧ decide (mid < m) = true ∧ Aside0 (wrap64 ((nn : Int) - (b : Int)) = (lo : Int) ∧ hi = mid)) ∨ (decide ((mid : Int) < (m : Int)) = false ∧ decide (mid < m) = false ∧ Aside0 (lo = a ∧ hi = m)) := by
    have h1 := HLO.out
    have h2 := HHI.out
    have h3 := HMID.out
    unfold lo0 at h1
    unfold hi0 at h2
    rw [← h3] at h1 h2
    by_cases h : mid < m
    · rw [if_pos h] at h1 h2
      refine .inl ⟨decide_eq_true (by omega), decide_eq_true h, ⟨?_, h2⟩⟩
      have := HNN.out
      have := HLH.out
      exact (w64 (by omega) (by omega)).trans (by omega)
    · rw [if_neg (show ¬ m > mid from h)] at h1 h2
      exact .inr ⟨decide_eq_false (by omega), decide_eq_false h, ⟨h1, h2⟩⟩
  clear hr ham hmb hbn hn ha hok hno hs1 hs2 hI hd
  go_enter Tryd.func86, Tryd.ntmps86
  go_upto_if 140 with (fail)
  rw [E1.out, E2.out]
  go_cut [20, 21] (fun v20 v21 wc => v20 = .int .i64 (lo : Int) ∧ v21 = .int .i64 (hi : Int) ∧ Aside0 (Row B gp n cap wc xs) ∧ Aside0 (Kp B gp w wc))
  case first => as_aux_lemma =>
    rcases HC0 with ⟨d1, d2, HE⟩ | ⟨d1, d2, HE⟩
    · (first | rw [d1] | rw [d2])
      go_wp2
      go_meet
      case rel => exact ⟨by rw [HE.out.1], by rw [HE.out.2], HR, HK⟩
    · (first | rw [d1] | rw [d2])
      go_wp2
      go_meet
      case rel => exact ⟨by rw [HE.out.1], by rw [HE.out.2], HR, HK⟩
  case rest =>
    clear HC0 HR HK
    obtain ⟨rfl, rfl, HR, HK⟩ := hcut
    go_wp2
    rw [E3.out]
    have HD : Aside0 (Down (Pm o xs p) lo hi) := ⟨by
      have := down_m HNO.out (show a < m by have := HAM.out; omega) (show m < b by have := HAM.out; omega) HSR.out.1 HSR.out.2
      rw [← HLO.out, ← HHI.out, ← HMID.out, ← HNN.out, show nn - 1 = p by have := HP.out; omega] at this
      exact this⟩
    go_loopw [20, 21] (fun v1 v2 W => ∃ (i j : Nat), v1 = .int .i64 (i : Int) ∧ v2 = .int .i64 (j : Int) ∧ Aside0 (lo ≤ i ∧ i ≤ j ∧ j ≤ hi) ∧ Aside0 (Sch (Pm o xs p) lo hi i j) ∧ Aside0 (Row B gp n cap W xs) ∧ Aside0 (Kp B gp w W)) (fun v1 v2 _ => (intOf v2).toNat - (intOf v1).toNat)
    case atStart => exact ⟨lo, hi, rfl, rfl, ⟨by have := HLH.out; omega⟩, ⟨Sch.begin_ _ _ _⟩, HR, HK⟩
    case round =>
      clear HR HK
      obtain ⟨i, j, rfl, rfl, HI, HS, HR, HK⟩ := hrel
      by_cases hlt : i < j
      · have d1 : decide ((i : Int) < (j : Int)) = true := decide_eq_true (by omega)
        have d2 : decide (i < j) = true := decide_eq_true hlt
        obtain ⟨c, HC⟩ : ∃ c, Aside0 (c = (i + j) / 2) := ⟨_, ⟨rfl⟩⟩
        obtain ⟨t, HT⟩ : ∃ t, Aside0 (t = p - c) := ⟨_, ⟨rfl⟩⟩
        have HHB : Aside0 (i ≤ c ∧ c < j ∧ c < n ∧ t < n ∧ c ≤ p) := ⟨by have := HC.out; have := HT.out; have := HI.out; have := HLH.out; have := HAM.out; have := HNN.out; have := HP.out; omega⟩
        have E4 : Aside0 (wrap64 (IntKind.u64.wrap (wrap64 ((i : Int) + (j : Int))) / 2) = (c : Int)) := ⟨by have := HI.out; have := HLH.out; have := HAM.out; exact half HC.out (n := n) (by omega) (by omega) (by omega)⟩
        have E5 : Aside0 (wrap64 ((c : Int) + 1) = ((c + 1 : Nat) : Int)) := ⟨by have := HHB.out; have := HAM.out; exact (w64 (by omega) (by omega)).trans (by omega)⟩
        have e6 : wrap64 ((p : Int) - (c : Int)) = (t : Int) := by have := HHB.out; have := HAM.out; have := HT.out; have := HNN.out; have := HP.out; have := HLH.out; exact (w64 (by omega) (by omega)).trans (by omega)
        have e7 : IntKind.i64.wrap ((p : Int) - (c : Int)) = (t : Int) := by have := HHB.out; have := HAM.out; have := HT.out; have := HNN.out; have := HP.out; have := HLH.out; exact (IntWalk.i64_in _ (by omega)).trans (by omega)
        obtain ⟨cc, fc⟩ := HR.out.cell c HHB.out.2.2.1
        obtain ⟨ct, ft⟩ := HR.out.cell t HHB.out.2.2.2.1
        have p0 : (0 : Int) ≤ (c : Int) := Int.natCast_nonneg _
        have p1 : (c : Int) < (n : Int) := by have := HHB.out; omega
        have q0 : (0 : Int) ≤ (t : Int) := Int.natCast_nonneg _
        have q1 : (t : Int) < (n : Int) := by have := HHB.out; omega
        have HOK2 : Aside0 (ok (g xs t) ∧ ok (g xs c)) := ⟨HOK.out.at_ (by rw [HX.out]; exact HHB.out.2.2.2.1), HOK.out.at_ (by rw [HX.out]; exact HHB.out.2.2.1)⟩
        clear hlt
        go_wp2
        rw [E4.out]
        by_cases hc : o (g xs t) (g xs c) < 0
        · as_aux_lemma =>
            have hcd : decide (o (g xs t) (g xs c) < 0) = true := decide_eq_true hc
            have HCC : Aside0 (¬ Pm o xs p c) := ⟨fun h => h (by rw [← HT.out]; exact hc)⟩
            clear hc
            go_quiet ((go_at_call 58; exact HA.out.at_ HK.out _ _ _ HOK2.out.1 HOK2.out.2))
            go_wp2
            exact ⟨⟨i, c, rfl, rfl, ⟨by have := HHB.out; have := HI.out; omega⟩, ⟨HS.out.down HD.out (by have := HHB.out; have := HI.out; omega) HCC.out⟩, ⟨HR.out.drewN _⟩, ⟨HK.out.drewN _⟩⟩, by simp [intOf]; have := HHB.out; omega⟩
        · as_aux_lemma =>
            have hcd : decide (o (g xs t) (g xs c) < 0) = false := decide_eq_false hc
            have HCC : Aside0 (Pm o xs p c) := ⟨fun h => hc (by rw [HT.out]; exact h)⟩
            clear hc
            go_quiet ((go_at_call 58; exact HA.out.at_ HK.out _ _ _ HOK2.out.1 HOK2.out.2))
            go_wp2
            rw [E5.out]
            exact ⟨⟨c + 1, j, rfl, rfl, ⟨by have := HHB.out; have := HI.out; omega⟩, ⟨HS.out.up HD.out (by have := HHB.out; have := HI.out; omega) HCC.out⟩, ⟨HR.out.drewN _⟩, ⟨HK.out.drewN _⟩⟩, by simp [intOf]; have := HHB.out; omega⟩
      · have d1 : decide ((i : Int) < (j : Int)) = false := decide_eq_false (by omega)
        have d2 : decide (i < j) = false := decide_eq_false hlt
        obtain rfl : i = j := by have := HI.out; omega
        clear hlt HD
        obtain ⟨e, HE⟩ : ∃ e, Aside0 (e = nn - i) := ⟨_, ⟨rfl⟩⟩
        have HEB : Aside0 (i ≤ m ∧ m ≤ e ∧ e ≤ b ∧ i + (e - m) = mid ∧ a ≤ i) := ⟨by have := HE.out; have := HI.out; have := HLH.out; have := HNN.out; have := HAM.out; omega⟩
        have E6 : Aside0 (wrap64 ((nn : Int) - (i : Int)) = (e : Int)) := ⟨by have := HE.out; have := HI.out; have := HLH.out; have := HNN.out; have := HAM.out; exact (w64 (by omega) (by omega)).trans (by omega)⟩
        have HCUT : Aside0 (∀ ys, Rotd i m e xs ys → Cut o a i mid e b xs ys) := ⟨fun ys hy => by
          have hs := HS.out
          have h1 := HI.out
          rw [HLO.out, HHI.out] at h1 hs
          have hp : p = (a + b) / 2 + m - 1 := by have := HP.out; have := HNN.out; have := HMID.out; omega
          have := cut_made HNO.out (s := i) (show a < m by have := HAM.out; omega) (show m < b by have := HAM.out; omega) HSR.out.1 HSR.out.2 h1.1 h1.2.2 (by rw [← hp]; exact hs) (ys := ys) (by rw [← HMID.out, ← HNN.out, ← HE.out]; exact hy)
          rw [← HMID.out, ← HNN.out, ← HE.out] at this
          exact this⟩
        clear HS
        go_upto_region 39 with fail
        rw [E6.out]
        go_cut [185] (fun v wc => v = .bool (decide (i < m ∧ m < e)) ∧ Aside0 (Row B gp n cap wc xs) ∧ Aside0 (Kp B gp w wc))
        case first => as_aux_lemma =>
          by_cases x1 : i < m
          · have d1 : decide ((i : Int) < (m : Int)) = true := decide_eq_true (by omega)
            have d2 : decide (i < m) = true := decide_eq_true x1
            by_cases x2 : m < e
            · have d3 : decide ((m : Int) < (e : Int)) = true := decide_eq_true (by omega)
              have d4 : decide (m < e) = true := decide_eq_true x2
              have HV := Aside0.mk (decide_eq_true (And.intro x1 x2))
              clear x1 x2
              go_wp2
              go_meet
              case rel => exact ⟨by rw [HV.out], HR, HK⟩
            · have d3 : decide ((m : Int) < (e : Int)) = false := decide_eq_false (by omega)
              have d4 : decide (m < e) = false := decide_eq_false x2
              have HV := Aside0.mk (decide_eq_false (fun h : i < m ∧ m < e => x2 h.2))
              clear x1 x2
              go_wp2
              go_meet
              case rel => exact ⟨by rw [HV.out], HR, HK⟩
          · have d1 : decide ((i : Int) < (m : Int)) = false := decide_eq_false (by omega)
            have d2 : decide (i < m) = false := decide_eq_false x1
            have HV := Aside0.mk (decide_eq_false (fun h : i < m ∧ m < e => x1 h.1))
            clear x1
            go_wp2
            go_meet
            case rel => exact ⟨by rw [HV.out], HR, HK⟩
        case rest =>
          clear HR HK
          obtain ⟨rfl, HR, HK⟩ := hcut
          go_upto_if 185 with (fail)
          go_cut [185] (fun v wc => ∃ ys, Aside0 (Cut o a i mid e b xs ys) ∧ Aside0 (Row B gp n cap wc ys) ∧ Aside0 (Kp B gp w wc))
          case first => as_aux_lemma =>
            by_cases hc : i < m ∧ m < e
            · rw [decide_eq_true hc]
              have HC := Aside0.mk hc
              clear hc
              go_wp2_with (go_at_call 106; (with_reducible refine (rot_calls B gp n cap i m e (Ord L) _ xs HR.out HC.out.1 HC.out.2 (by have := HEB.out; have := HAM.out; omega) (by have := HAM.out; omega)).mono ?_); rintro ee w2 ⟨rfl, ys, hy, hr2, hk2⟩; have HY := Aside0.mk hy; have HR2 := Aside0.mk hr2; have HK2 := Aside0.mk (HK.out.trans hk2); clear hy hr2 hk2 HR HK)
              go_meet
              case rel => exact ⟨ys, ⟨HCUT.out ys HY.out⟩, HR2, HK2⟩
            · rw [decide_eq_false hc]
              have HC := Aside0.mk hc
              clear hc
              go_wp2
              go_meet
              case rel => exact ⟨xs, ⟨HCUT.out xs (rotd_triv xs (by have := HC.out; have := HEB.out; omega) HEB.out.1 HEB.out.2.1)⟩, HR, HK⟩
          case rest =>
            clear HR HK
            obtain ⟨ys, HCU, HR, HK⟩ := hcut
            have SC2 : Aside0 (a < i → i < mid → ∀ W, Row B gp n cap W ys → Kp B gp w W → Calls Tryd.prog 86 #[.slice (some ⟨gp, 0, none⟩) n cap, .int .i64 (a : Int), .int .i64 (i : Int), .int .i64 (mid : Int), Ord L] W (SymPost o B gp n cap W ys a mid)) := ⟨fun h1 h2 W hr hk => HIH.out a i mid W ys (by have := HLH.out; have := HDD.out; omega) h1 h2 (by have := HLH.out; have := HAM.out; omega) hr (HA.out.move hk) (HOK.out.perm HCU.out.sh.perm) HCU.out.s1 HCU.out.s2⟩
            go_upto_region 41 with fail
            go_cut [199] (fun v wc => v = .bool (decide (a < i ∧ i < mid)) ∧ Aside0 (Row B gp n cap wc ys) ∧ Aside0 (Kp B gp w wc))
            case first => as_aux_lemma =>
              by_cases x1 : a < i
              · have d1 : decide ((a : Int) < (i : Int)) = true := decide_eq_true (by omega)
                have d2 : decide (a < i) = true := decide_eq_true x1
                by_cases x2 : i < mid
                · have d3 : decide ((i : Int) < (mid : Int)) = true := decide_eq_true (by omega)
                  have d4 : decide (i < mid) = true := decide_eq_true x2
                  have HV := Aside0.mk (decide_eq_true (And.intro x1 x2))
                  clear x1 x2
                  go_wp2
                  go_meet
                  case rel => exact ⟨by rw [HV.out], HR, HK⟩
                · have d3 : decide ((i : Int) < (mid : Int)) = false := decide_eq_false (by omega)
                  have d4 : decide (i < mid) = false := decide_eq_false x2
                  have HV := Aside0.mk (decide_eq_false (fun h : a < i ∧ i < mid => x2 h.2))
                  clear x1 x2
                  go_wp2
                  go_meet
                  case rel => exact ⟨by rw [HV.out], HR, HK⟩
              · have d1 : decide ((a : Int) < (i : Int)) = false := decide_eq_false (by omega)
                have d2 : decide (a < i) = false := decide_eq_false x1
                have HV := Aside0.mk (decide_eq_false (fun h : a < i ∧ i < mid => x1 h.1))
                clear x1
                go_wp2
                go_meet
                case rel => exact ⟨by rw [HV.out], HR, HK⟩
            case rest =>
              clear HR HK
              obtain ⟨rfl, HR, HK⟩ := hcut
              go_upto_if 199 with (fail)
              go_cut [199] (fun v wc => ∃ zs, Aside0 (Mrg o a mid ys zs) ∧ Aside0 (Row B gp n cap wc zs) ∧ Aside0 (Kp B gp w wc))
              case first => as_aux_lemma =>
                by_cases hc : a < i ∧ i < mid
                · rw [decide_eq_true hc]
                  have HC := Aside0.mk hc
                  clear hc
                  go_wp2_with (go_at_call 86; (with_reducible refine (SC2.out HC.out.1 HC.out.2 _ HR.out HK.out).mono ?_); rintro ee w2 ⟨rfl, zs, hz, hr2, hk2⟩; have HZ := Aside0.mk hz; have HR2 := Aside0.mk hr2; have HK2 := Aside0.mk (HK.out.trans hk2); clear hz hr2 hk2 HR HK)
                  go_meet
                  case rel => exact ⟨zs, HZ, HR2, HK2⟩
                · rw [decide_eq_false hc]
                  have HC := Aside0.mk hc
                  clear hc
                  go_wp2
                  go_meet
                  case rel => exact ⟨ys, ⟨Mrg.left HCU.out.s1 HCU.out.s2 HC.out (by have := HEB.out; omega) HEB.out.2.2.2.2⟩, HR, HK⟩
              case rest =>
                clear HR HK
                obtain ⟨zs, HZ, HR, HK⟩ := hcut
                have HS2 : Aside0 (Srt o mid e zs ∧ Srt o e b zs) := ⟨(HCU.out.second HZ.out.sh).resolve_right (by have := HEB.out; omega)⟩
                have SC3 : Aside0 (mid < e → e < b → ∀ W, Row B gp n cap W zs → Kp B gp w W → Calls Tryd.prog 86 #[.slice (some ⟨gp, 0, none⟩) n cap, .int .i64 (mid : Int), .int .i64 (e : Int), .int .i64 (b : Int), Ord L] W (SymPost o B gp n cap W zs mid b)) := ⟨fun h1 h2 W hr hk => HIH.out mid e b W zs (by have := HLH.out; have := HDD.out; omega) h1 h2 HAM.out.2.2.1 hr (HA.out.move hk) ((HOK.out.perm HCU.out.sh.perm).perm HZ.out.sh.perm) HS2.out.1 HS2.out.2⟩
                go_upto_region 43 with fail
                go_cut [213] (fun v wc => v = .bool (decide (mid < e ∧ e < b)) ∧ Aside0 (Row B gp n cap wc zs) ∧ Aside0 (Kp B gp w wc))
                case first => as_aux_lemma =>
                  by_cases x1 : mid < e
                  · have d1 : decide ((mid : Int) < (e : Int)) = true := decide_eq_true (by omega)
                    have d2 : decide (mid < e) = true := decide_eq_true x1
                    by_cases x2 : e < b
                    · have d3 : decide ((e : Int) < (b : Int)) = true := decide_eq_true (by omega)
                      have d4 : decide (e < b) = true := decide_eq_true x2
                      have HV := Aside0.mk (decide_eq_true (And.intro x1 x2))
                      clear x1 x2
                      go_wp2
                      go_meet
                      case rel => exact ⟨by rw [HV.out], HR, HK⟩
                    · have d3 : decide ((e : Int) < (b : Int)) = false := decide_eq_false (by omega)
                      have d4 : decide (e < b) = false := decide_eq_false x2
                      have HV := Aside0.mk (decide_eq_false (fun h : mid < e ∧ e < b => x2 h.2))
                      clear x1 x2
                      go_wp2
                      go_meet
                      case rel => exact ⟨by rw [HV.out], HR, HK⟩
                  · have d1 : decide ((mid : Int) < (e : Int)) = false := decide_eq_false (by omega)
                    have d2 : decide (mid < e) = false := decide_eq_false x1
                    have HV := Aside0.mk (decide_eq_false (fun h : mid < e ∧ e < b => x1 h.1))
                    clear x1
                    go_wp2
                    go_meet
                    case rel => exact ⟨by rw [HV.out], HR, HK⟩
                case rest =>
                  clear HR HK
                  obtain ⟨rfl, HR, HK⟩ := hcut
                  by_cases hc : mid < e ∧ e < b
                  · as_aux_lemma =>
                      have HC := Aside0.mk hc
                      have hv : decide (mid < e ∧ e < b) = true := decide_eq_true hc
                      clear hc
                      rw [hv]
                      go_wp2_with (go_at_call 86; (with_reducible refine (SC3.out HC.out.1 HC.out.2 _ HR.out HK.out).mono ?_); rintro ee w2 ⟨rfl, us, hu, hr2, hk2⟩; have HU := Aside0.mk hu; have HR2 := Aside0.mk hr2; have HK2 := Aside0.mk (HK.out.trans hk2); clear hu hr2 hk2 HR HK)
                      go_end0
                      exact ⟨rfl, us, HCU.out.whole HNO.out (by have := HLH.out; omega) (by have := HLH.out; omega) HZ.out HU.out, HR2.out, HK2.out⟩
                  · as_aux_lemma =>
                      have HC := Aside0.mk hc
                      have hv : decide (mid < e ∧ e < b) = false := decide_eq_false hc
                      clear hc
                      rw [hv]
                      go_wp2
                      go_end0
                      exact ⟨rfl, zs, HCU.out.whole HNO.out (by have := HLH.out; omega) (by have := HLH.out; omega) HZ.out (Mrg.left HS2.out.1 HS2.out.2 HC.out HEB.out.2.2.1 (by have := HEB.out; omega)), HR.out, HK.out⟩
end Go.Proofs.YtcmajhdgaeploaaDoor.Stab
