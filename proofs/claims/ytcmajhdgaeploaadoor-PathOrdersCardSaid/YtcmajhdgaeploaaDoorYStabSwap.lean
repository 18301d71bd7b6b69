/- Two stretches of a row change places; then two neighbours of unlike lengths: walked. -/
import Derived.Test.YtcmajhdgaeploaaDoorYStabRow
namespace Go.Proofs.YtcmajhdgaeploaaDoor.Stab
open Go Go.RowKit Go.Proofs.YtcmajhdgaeploaaDoorW.PrintWords Go.Proofs.YtcmajhdgaeploaaDoorW.PrintLast Go.Proofs.YtcmajhdgaeploaaDoorW.PrintMore
set_option linter.unusedVariables false
set_option linter.unusedSimpArgs false
set_option maxHeartbeats 1000000 in
set_option maxRecDepth 100000 in
theorem swap_calls (B gp n cap a b l : Nat) (F : Value) (w : World) (xs : List Int) (hr : Row B gp n cap w xs) (hab : a + l ≤ b) (hbl : b + l ≤ n) (hn : n ≤ 1000000000) :
    Calls Tryd.prog 127 #[.slice (some ⟨gp, 0, none⟩) n cap, .int .i64 (a : Int), .int .i64 (b : Int), .int .i64 (l : Int), F] w fun e w' =>
      e = .returned (.tuple #[]) ∧ ∃ ys, SwR a b l xs ys ∧ Row B gp n cap w' ys ∧ Kp B gp w w' := by
  have HR := Aside0.mk hr
  have HX := Aside0.mk hr
  have HB := Aside0.mk hr.base
  have HK := Aside0.mk (Kp.refl B gp w)
  have HAB := Aside0.mk hab
  have HBL := Aside0.mk hbl
  have HN := Aside0.mk hn
  clear hr hab hbl hn
  go_enter Tryd.func127, Tryd.ntmps127
  go_wp2
  go_loopw [10] (fun v W => ∃ (i : Nat) (ys : List Int), i ≤ l ∧ v = .int .i64 (i : Int) ∧ Aside0 (SwR a b i xs ys) ∧ Aside0 (Row B gp n cap W ys) ∧ Aside0 (Kp B gp w W)) (fun v _ => l - (intOf v).toNat)
  case atStart => exact ⟨0, xs, Nat.zero_le _, rfl, ⟨SwR.begin_ _ _ _⟩, HR, HK⟩
  case round =>
    clear HR HK
    obtain ⟨i, ys, hi, rfl, HS, HR, HK⟩ := hrel
    by_cases hlt : i < l
    · have d1 : decide ((i : Int) < (l : Int)) = true := decide_eq_true (by omega)
      have HI := Aside0.mk hlt
      obtain ⟨p, HP⟩ : ∃ p, Aside0 (p = a + i) := ⟨_, ⟨rfl⟩⟩
      obtain ⟨q, HQ⟩ : ∃ q, Aside0 (q = b + i) := ⟨_, ⟨rfl⟩⟩
      have HPQ : Aside0 (p < n ∧ q < n ∧ q ≠ p) := ⟨by have := HAB.out; have := HBL.out; have := HP.out; have := HQ.out; have := HI.out; omega⟩
      obtain ⟨cp, fp⟩ := HR.out.cell p HPQ.out.1
      obtain ⟨cq, fq⟩ := HR.out.cell q HPQ.out.2.1
      have e3 : IntKind.i64.wrap ((a : Int) + (i : Int)) = (p : Int) := by have := HN.out; have := HBL.out; have := HAB.out; have := HP.out; have := HI.out; exact (IntWalk.i64_in _ (by omega)).trans (by omega)
      have e4 : IntKind.i64.wrap ((b : Int) + (i : Int)) = (q : Int) := by have := HN.out; have := HBL.out; have := HQ.out; have := HI.out; exact (IntWalk.i64_in _ (by omega)).trans (by omega)
      have e1 : wrap64 ((a : Int) + (i : Int)) = (p : Int) := by have := HN.out; have := HBL.out; have := HAB.out; have := HP.out; have := HI.out; exact (w64 (by omega) (by omega)).trans (by omega)
      have e2 : wrap64 ((b : Int) + (i : Int)) = (q : Int) := by have := HN.out; have := HBL.out; have := HQ.out; have := HI.out; exact (w64 (by omega) (by omega)).trans (by omega)
      obtain ⟨cq2, fq2⟩ := HR.out.cell2 p q (g ys q) HPQ.out.1 HPQ.out.2.1 HPQ.out.2.2
      have p0 : (0 : Int) ≤ (p : Int) := Int.natCast_nonneg _
      have p1 : (p : Int) < (n : Int) := by have := HPQ.out.1; omega
      have q0 : (0 : Int) ≤ (q : Int) := Int.natCast_nonneg _
      have q1 : (q : Int) < (n : Int) := by have := HPQ.out.2.1; omega
      have QI := Aside0.mk (show wrap64 ((i : Int) + 1) = ((i + 1 : Nat) : Int) by have := HN.out; have := HBL.out; have := HI.out; exact (w64 (by omega) (by omega)).trans (by omega))
      go_wp2
      go_region
      all_goals go_wp2
      all_goals (rw [QI.out]; refine ⟨⟨i + 1, sw ys p q, HI.out, rfl, ⟨?_⟩, ⟨?_⟩, ⟨?_⟩⟩, by simp [intOf]; have := HI.out; omega⟩)
      · rw [HP.out, HQ.out]
        exact HS.out.step HAB.out (by rw [HX.out.len]; exact HBL.out) HI.out
      · exact (HR.out.swap p q).drew
      · exact ((HK.out.set_ HB.out p _).set_ HB.out q _).drew
    · obtain rfl : i = l := by omega
      have d1 : decide ((i : Int) < (i : Int)) = false := decide_eq_false (by omega)
      clear hi hlt
      go_wp2
      go_end0
      exact ⟨rfl, ys, HS.out, HR.out, HK.out⟩
set_option maxHeartbeats 1000000 in
set_option maxRecDepth 100000 in
theorem rot_calls (B gp n cap a m b : Nat) (F : Value) (w : World) (xs : List Int) (hr : Row B gp n cap w xs) (ham : a < m) (hmb : m < b) (hbn : b ≤ n) (hn : n ≤ 1000000000) :
    Calls Tryd.prog 106 #[.slice (some ⟨gp, 0, none⟩) n cap, .int .i64 (a : Int), .int .i64 (m : Int), .int .i64 (b : Int), F] w fun e w' =>
      e = .returned (.tuple #[]) ∧ ∃ ys, Rotd a m b xs ys ∧ Row B gp n cap w' ys ∧ Kp B gp w w' := by
  have HR := Aside0.mk hr
  have HK := Aside0.mk (Kp.refl B gp w)
  have HAM := Aside0.mk ham
  have HMB := Aside0.mk hmb
  have HBN := Aside0.mk hbn
  have HN := Aside0.mk hn
  have HS := Aside0.mk (Rot.begin_ xs (Nat.le_of_lt ham) (Nat.le_of_lt hmb))
  obtain ⟨i0, hi0⟩ : ∃ x, x = m - a := ⟨_, rfl⟩
  obtain ⟨j0, hj0⟩ : ∃ x, x = b - m := ⟨_, rfl⟩
  have E0 := Aside0.mk (show wrap64 ((m : Int) - (a : Int)) = (i0 : Int) from (w64 (by omega) (by omega)).trans (by omega))
  have E1 := Aside0.mk (show wrap64 ((b : Int) - (m : Int)) = (j0 : Int) from (w64 (by omega) (by omega)).trans (by omega))
  have P0 := Aside0.mk (show 0 < i0 by omega)
  have P1 := Aside0.mk (show 0 < j0 by omega)
  rw [← hi0, ← hj0] at HS
  clear hr ham hmb hbn hn hi0 hj0
  go_enter Tryd.func106, Tryd.ntmps106
  go_wp2
  go_loopw [10, 11] (fun v1 v2 W => ∃ (i j : Nat) (ys : List Int), 0 < i ∧ 0 < j ∧ v1 = .int .i64 (i : Int) ∧ v2 = .int .i64 (j : Int) ∧ Aside0 (Rot a m b xs ys i j) ∧ Aside0 (Row B gp n cap W ys) ∧ Aside0 (Kp B gp w W)) (fun v1 v2 _ => (intOf v1).toNat + (intOf v2).toNat)
  case atStart => rw [E0.out, E1.out]; exact ⟨i0, j0, xs, P0.out, P1.out, rfl, rfl, HS, HR, HK⟩
  case round =>
    clear HS HR HK
    obtain ⟨i, j, ys, hi, hj, rfl, rfl, HS, HR, HK⟩ := hrel
    obtain ⟨s, hs⟩ : ∃ x, x = m - i := ⟨_, rfl⟩
    have bi := HS.out.hi
    have bj := HS.out.hj
    have b1 := HAM.out
    have b2 := HMB.out
    have b3 := HBN.out
    have b4 := HN.out
    have E2 := Aside0.mk (show wrap64 ((m : Int) - (i : Int)) = (s : Int) from (w64 (by omega) (by omega)).trans (by omega))
    by_cases hij : i = j
    · subst hij
      have f1 : ((i : Int) != (i : Int)) = false := by simp
      have SC : Aside0 (∀ W, Row B gp n cap W ys → Calls Tryd.prog 127 #[.slice (some ⟨gp, 0, none⟩) n cap, .int .i64 (s : Int), .int .i64 (m : Int), .int .i64 (i : Int), F] W fun e w' => e = .returned (.tuple #[]) ∧ ∃ zs, SwR s m i ys zs ∧ Row B gp n cap w' zs ∧ Kp B gp W w') := ⟨fun W h => swap_calls B gp n cap s m i F W ys h (by omega) (by omega) b4⟩
      have HSS := Aside0.mk hs
      clear hs bi bj b1 b2 b3 b4 hi hj
      go_wp2_with (go_at_call 127; rw [E2.out]; (with_reducible refine (SC.out _ HR.out).mono ?_); rintro e w2 ⟨rfl, zs, hz, hr2, hk2⟩; have HZ := Aside0.mk hz; have HR2 := Aside0.mk hr2; have HK2 := Aside0.mk (HK.out.trans hk2); clear hz hr2 hk2 HR HK)
      go_end0
      have hd := HS.out.done (Nat.le_of_lt HAM.out) (Nat.le_of_lt HMB.out) (by rw [← HSS.out]; exact HZ.out)
      exact ⟨rfl, zs, ⟨hd.1, hd.2.1, hd.2.2⟩, HR2.out, HK2.out⟩
    · have f1 : ((i : Int) != (j : Int)) = true := bne_iff_ne.2 (by omega)
      by_cases hlt : j < i
      · have d1 : decide ((j : Int) < (i : Int)) = true := decide_eq_true (by omega)
        have d2 : decide (j < i) = true := decide_eq_true hlt
        obtain ⟨d, hd⟩ : ∃ x, x = i - j := ⟨_, rfl⟩
        have E3 := Aside0.mk (show wrap64 ((i : Int) - (j : Int)) = (d : Int) from (w64 (by omega) (by omega)).trans (by omega))
        have SC : Aside0 (∀ W, Row B gp n cap W ys → Calls Tryd.prog 127 #[.slice (some ⟨gp, 0, none⟩) n cap, .int .i64 (s : Int), .int .i64 (m : Int), .int .i64 (j : Int), F] W fun e w' => e = .returned (.tuple #[]) ∧ ∃ zs, SwR s m j ys zs ∧ Row B gp n cap w' zs ∧ Kp B gp W w') := ⟨fun W h => swap_calls B gp n cap s m j F W ys h (by omega) (by omega) b4⟩
        have HSS := Aside0.mk hs
        have HD := Aside0.mk hd
        have HJ := Aside0.mk hj
        have HLT := Aside0.mk hlt
        clear hs bi bj b1 b2 b3 b4 hi hj hd hlt hij
        go_wp2_with (go_at_call 127; rw [E2.out]; (with_reducible refine (SC.out _ HR.out).mono ?_); rintro e w2 ⟨rfl, zs, hz, hr2, hk2⟩; have HZ := Aside0.mk hz; have HR2 := Aside0.mk hr2; have HK2 := Aside0.mk (HK.out.trans hk2); clear hz hr2 hk2 HR HK)
        rw [E3.out]
        refine ⟨⟨d, j, zs, by have := HD.out; have := HLT.out; omega, HJ.out, rfl, rfl, ⟨?_⟩, HR2, HK2⟩, by simp [intOf]; have := HD.out; have := HLT.out; have := HJ.out; omega⟩
        rw [HD.out]
        exact HS.out.more (Nat.le_of_lt HAM.out) (Nat.le_of_lt HMB.out) HLT.out (by rw [← HSS.out]; exact HZ.out)
      · have d1 : decide ((j : Int) < (i : Int)) = false := decide_eq_false (by omega)
        have d2 : decide (j < i) = false := decide_eq_false hlt
        have hlt2 : i < j := by omega
        obtain ⟨d, hd⟩ : ∃ x, x = j - i := ⟨_, rfl⟩
        obtain ⟨t, ht⟩ : ∃ x, x = m + j := ⟨_, rfl⟩
        obtain ⟨u, hu⟩ : ∃ x, x = m + j - i := ⟨_, rfl⟩
        have E3 := Aside0.mk (show wrap64 ((j : Int) - (i : Int)) = (d : Int) from (w64 (by omega) (by omega)).trans (by omega))
        have E4 := Aside0.mk (show wrap64 ((m : Int) + (j : Int)) = (t : Int) from (w64 (by omega) (by omega)).trans (by omega))
        have E5 := Aside0.mk (show wrap64 ((t : Int) - (i : Int)) = (u : Int) from (w64 (by omega) (by omega)).trans (by omega))
        have SC : Aside0 (∀ W, Row B gp n cap W ys → Calls Tryd.prog 127 #[.slice (some ⟨gp, 0, none⟩) n cap, .int .i64 (s : Int), .int .i64 (u : Int), .int .i64 (i : Int), F] W fun e w' => e = .returned (.tuple #[]) ∧ ∃ zs, SwR s u i ys zs ∧ Row B gp n cap w' zs ∧ Kp B gp W w') := ⟨fun W h => swap_calls B gp n cap s u i F W ys h (by omega) (by omega) b4⟩
        have HSS := Aside0.mk hs
        have HD := Aside0.mk hd
        have HU := Aside0.mk hu
        have HI := Aside0.mk hi
        have HLT := Aside0.mk hlt2
        clear hs bi bj b1 b2 b3 b4 hi hj hd hlt hlt2 hij ht hu
        go_wp2_with (go_at_call 127; rw [E2.out, E4.out, E5.out]; (with_reducible refine (SC.out _ HR.out).mono ?_); rintro e w2 ⟨rfl, zs, hz, hr2, hk2⟩; have HZ := Aside0.mk hz; have HR2 := Aside0.mk hr2; have HK2 := Aside0.mk (HK.out.trans hk2); clear hz hr2 hk2 HR HK)
        rw [E3.out]
        refine ⟨⟨i, d, zs, HI.out, by have := HD.out; have := HLT.out; omega, rfl, rfl, ⟨?_⟩, HR2, HK2⟩, by simp [intOf]; have := HD.out; have := HLT.out; have := HI.out; omega⟩
        rw [HD.out]
        exact HS.out.less (Nat.le_of_lt HAM.out) (Nat.le_of_lt HMB.out) HLT.out (by rw [← HSS.out, ← HU.out]; exact HZ.out)
end Go.Proofs.YtcmajhdgaeploaaDoor.Stab
