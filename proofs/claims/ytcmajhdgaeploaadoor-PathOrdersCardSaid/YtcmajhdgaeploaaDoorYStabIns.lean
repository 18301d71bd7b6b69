/- A stretch of a row put in order by insertion: walked. -/
import Derived.Test.YtcmajhdgaeploaaDoorYStabRow
namespace Go.Proofs.YtcmajhdgaeploaaDoor.Stab
open Go Go.RowKit Go.Proofs.YtcmajhdgaeploaaDoorW.PrintWords Go.Proofs.YtcmajhdgaeploaaDoorW.PrintLast Go.Proofs.YtcmajhdgaeploaaDoorW.PrintMore
set_option linter.unusedVariables false
set_option linter.unusedSimpArgs false
/-- The comparing function, as a value. -/
abbrev Ord (L : Addr) : Value := .func (.func 58) #[.pointer (some L)] #[]
theorem Ins.step' {o : Int → Int → Int} (hn : Nice o) {a i j jp : Nat} {xs : List Int} (h : Ins o a i j xs) (hj : a < j) (hji : j ≤ i) (hl : i < xs.length) (hp : j = jp + 1) (hs : o (g xs j) (g xs jp) < 0) : Ins o a i jp (sw xs j jp) := by
  have e : j - 1 = jp := by omega
  have := h.step hn hj hji hl (by rw [e]; exact hs)
  rwa [e] at this
set_option maxHeartbeats 1000000 in
set_option maxRecDepth 100000 in
theorem ins_calls {o : Int → Int → Int} {ok : Int → Prop} (hno : Nice o) (B gp n cap a b : Nat) (L : Addr) (w : World) (xs : List Int) (hr : Row B gp n cap w xs) (hab : a ≤ b) (hbn : b ≤ n) (hn : n ≤ 1000000000) (ha : Asks gp L B w o ok) (hok : AllOk ok xs) :
    Calls Tryd.prog 85 #[.slice (some ⟨gp, 0, none⟩) n cap, .int .i64 (a : Int), .int .i64 (b : Int), Ord L] w fun e w' =>
      e = .returned (.tuple #[]) ∧ ∃ ys, Mrg o a b xs ys ∧ Row B gp n cap w' ys ∧ Kp B gp w w' := by
  have HR := Aside0.mk hr
  have HX := Aside0.mk hr.len
  have HB := Aside0.mk hr.base
  have HK := Aside0.mk (Kp.refl B gp w)
  have HAB := Aside0.mk hab
  have HBN := Aside0.mk hbn
  have HN := Aside0.mk hn
  have HA := Aside0.mk ha
  have HOK := Aside0.mk hok
  have HNO := Aside0.mk hno
  have E0 := Aside0.mk (show wrap64 ((a : Int) + 1) = ((a + 1 : Nat) : Int) from (w64 (by omega) (by omega)).trans (by omega))
  clear hr hab hbn hn ha hok hno
  go_enter Tryd.func85, Tryd.ntmps85
  go_wp2
  go_loopw [8] (fun v8 W => ∃ (i : Nat) (ys : List Int), v8 = .int .i64 (i : Int) ∧ Aside0 (a < i ∧ i ≤ b + 1) ∧ Aside0 (Shuf a b xs ys) ∧ Aside0 (Srt o a i ys) ∧ Aside0 (Row B gp n cap W ys) ∧ Aside0 (Kp B gp w W)) (fun v8 _ => b + 1 - (intOf v8).toNat)
  case atStart => rw [E0.out]; exact ⟨a + 1, xs, rfl, ⟨by have := HAB.out; omega⟩, ⟨Shuf.refl _ _ _⟩, ⟨Srt.one o (by omega) _⟩, HR, HK⟩
  case round =>
    clear HR HK
    obtain ⟨i, ys, rfl, HI, HS, HO, HR, HK⟩ := hrel
    by_cases hlt : i < b
    · have d1 : decide ((i : Int) < (b : Int)) = true := decide_eq_true (by omega)
      have d2 : decide (i < b) = true := decide_eq_true hlt
      have HLT := Aside0.mk hlt
      clear hlt
      go_wp2
      go_loopw [9] (fun v9 W => ∃ (j : Nat) (zs : List Int), v9 = .int .i64 (j : Int) ∧ Aside0 (a ≤ j ∧ j ≤ i) ∧ Aside0 (Shuf a b xs zs) ∧ Aside0 (Ins o a i j zs) ∧ Aside0 (Row B gp n cap W zs) ∧ Aside0 (Kp B gp w W)) (fun v9 _ => (intOf v9).toNat)
      case atStart => exact ⟨i, ys, rfl, ⟨by have := HI.out; omega⟩, HS, ⟨Ins.begin_ HO.out⟩, HR, HK⟩
      case round =>
        clear HS HO HR HK
        obtain ⟨j, zs, rfl, HJ, HS, HO, HR, HK⟩ := hrel
        have QI := Aside0.mk (show wrap64 ((i : Int) + 1) = ((i + 1 : Nat) : Int) from (w64 (by omega) (by have := HLT.out; have := HBN.out; have := HN.out; omega)).trans (by omega))
        have HZL : Aside0 (zs.length = n) := ⟨HR.out.len⟩
        by_cases hja : a < j
        · obtain ⟨jp, HP⟩ : ∃ jp, Aside0 (j = jp + 1) := ⟨j - 1, ⟨by omega⟩⟩
          have g1 : decide ((a : Int) < (j : Int)) = true := decide_eq_true (by omega)
          have g2 : decide (a < j) = true := decide_eq_true hja
          have HJA := Aside0.mk hja
          have HJN : Aside0 (j < n ∧ jp < n ∧ jp ≠ j) := ⟨by have := HJ.out; have := HLT.out; have := HBN.out; have := HP.out; omega⟩
          obtain ⟨cj, fj⟩ := HR.out.cell j HJN.out.1
          obtain ⟨cp, fp⟩ := HR.out.cell jp HJN.out.2.1
          have e1 : wrap64 ((j : Int) - 1) = (jp : Int) := by have := HP.out; have := HJN.out; have := HN.out; exact (w64 (by omega) (by omega)).trans (by omega)
          have e2 : IntKind.i64.wrap ((j : Int) - 1) = (jp : Int) := by have := HP.out; have := HJN.out; have := HN.out; exact (IntWalk.i64_in _ (by omega)).trans (by omega)
          have E1 := Aside0.mk e1
          have p0 : (0 : Int) ≤ (j : Int) := Int.natCast_nonneg _
          have p1 : (j : Int) < (n : Int) := by have := HJN.out.1; omega
          have q0 : (0 : Int) ≤ (jp : Int) := Int.natCast_nonneg _
          have q1 : (jp : Int) < (n : Int) := by have := HJN.out.2.1; omega
          have HOK2 : Aside0 (ok (g zs j) ∧ ok (g zs jp)) := ⟨(HOK.out.perm HS.out.perm).at_ (by rw [HZL.out]; exact HJN.out.1), (HOK.out.perm HS.out.perm).at_ (by rw [HZL.out]; exact HJN.out.2.1)⟩
          clear hja
          by_cases hc : o (g zs j) (g zs jp) < 0
          · have hcd : decide (o (g zs j) (g zs jp) < 0) = true := decide_eq_true hc
            have HC := Aside0.mk hc
            clear hc
            go_wp2_with fail
            go_quiet ((go_at_call 58; exact HA.out.at_ HK.out _ _ _ HOK2.out.1 HOK2.out.2))
            go_wp2
            have HR2 := Aside0.mk (HR.out.drewN nq)
            have HK2 := Aside0.mk (HK.out.drewN nq)
            generalize wr.drewN nq = W2 at HR2 HK2 ⊢
            obtain ⟨cj3, fj3⟩ := HR2.out.cell j HJN.out.1
            obtain ⟨cp3, fp3⟩ := HR2.out.cell jp HJN.out.2.1
            obtain ⟨cp4, fp4⟩ := HR2.out.cell2 j jp (g zs jp) HJN.out.1 HJN.out.2.1 HJN.out.2.2
            go_region
            all_goals go_wp2
            all_goals ((try rw [E1.out]); refine ⟨⟨jp, sw zs j jp, rfl, ⟨by have := HP.out; have := HJA.out; have := HJ.out; omega⟩, ⟨HS.out.trans (Shuf.swap (by have := HJ.out; omega) (by have := HJ.out; have := HLT.out; omega) (by have := HJA.out; have := HP.out; omega) (by have := HP.out; have := HJ.out; have := HLT.out; omega) (by rw [HZL.out]; exact HBN.out))⟩, ⟨?_⟩, ⟨(HR2.out.swap j jp).drew⟩, ⟨((HK2.out.set_ HB.out j _).set_ HB.out jp _).drew⟩⟩, by simp [intOf]; have := HP.out; omega⟩)
            all_goals (exact Ins.step' HNO.out HO.out HJA.out HJ.out.2 (by rw [HZL.out]; have := HLT.out; have := HBN.out; omega) HP.out HC.out)
          · have hcd : decide (o (g zs j) (g zs jp) < 0) = false := decide_eq_false hc
            have HC := Aside0.mk hc
            clear hc
            go_wp2_with fail
            go_quiet ((go_at_call 58; exact HA.out.at_ HK.out _ _ _ HOK2.out.1 HOK2.out.2))
            go_wp2
            rw [QI.out]
            refine ⟨⟨i + 1, zs, rfl, ⟨by have := HLT.out; have := HI.out; omega⟩, HS, ⟨HO.out.done HNO.out HJ.out.1 (.inr ?_)⟩, ⟨HR.out.drewN _⟩, ⟨HK.out.drewN _⟩⟩, by simp [intOf]; have := HLT.out; omega⟩
            have e : j - 1 = jp := by have := HP.out; omega
            rw [e]
            exact fun h => by have := HC.out; omega
        · have HJA : Aside0 (j = a) := ⟨by have := HJ.out; omega⟩
          have g1 : decide ((a : Int) < (j : Int)) = false := decide_eq_false (by omega)
          have g2 : decide (a < j) = false := decide_eq_false hja
          clear hja
          go_wp2_with fail
          go_quiet (fail)
          go_wp2
          rw [QI.out]
          exact ⟨⟨i + 1, zs, rfl, ⟨by have := HLT.out; have := HI.out; omega⟩, HS, ⟨HO.out.done HNO.out HJ.out.1 (.inl HJA.out)⟩, ⟨HR.out.drewN _⟩, ⟨HK.out.drewN _⟩⟩, by simp [intOf]; have := HLT.out; omega⟩
    · have d1 : decide ((i : Int) < (b : Int)) = false := decide_eq_false (by omega)
      have d2 : decide (i < b) = false := decide_eq_false hlt
      have HLT := Aside0.mk hlt
      clear hlt
      go_wp2
      go_end0
      exact ⟨rfl, ys, ⟨HS.out, HO.out.narrow (Nat.le_refl _) (by have := HLT.out; omega)⟩, HR.out, HK.out⟩
end Go.Proofs.YtcmajhdgaeploaaDoor.Stab
