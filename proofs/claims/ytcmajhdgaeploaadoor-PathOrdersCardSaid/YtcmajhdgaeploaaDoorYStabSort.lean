/- A row put in order by blocks that are merged: walked. -/
import Derived.Test.YtcmajhdgaeploaaDoorYStabSym
import Derived.Test.YtcmajhdgaeploaaDoorYStabPl
namespace Go.Proofs.YtcmajhdgaeploaaDoor.Stab
open Go Go.RowKit Go.Proofs.YtcmajhdgaeploaaDoorW.PrintWords Go.Proofs.YtcmajhdgaeploaaDoorW.PrintLast Go.Proofs.YtcmajhdgaeploaaDoorW.PrintMore
set_option linter.unusedVariables false
set_option linter.unusedSimpArgs false
theorem sym_all {o : Int → Int → Int} {ok : Int → Prop} (hno : Nice o) (B gp n cap : Nat) (L : Addr) (hn : n ≤ 1000000000) : ∀ d, SymTold o ok B gp n cap L d
  | 0 => fun a m b w xs hd h1 h2 => by omega
  | d + 1 => fun a m b w xs hd h1 h2 hbn hr ha hok hs1 hs2 => by
    by_cases c1 : m = a + 1
    · subst c1
      exact sym_a hno B gp n cap a b L w xs hr h2 hbn hn ha hok hs2
    · by_cases c2 : b = m + 1
      · subst c2
        exact sym_b hno B gp n cap a m L w xs hr (by omega) hbn hn ha hok hs1
      · exact sym_g hno B gp n cap a m b d L w xs (sym_all hno B gp n cap L hn d) hd hr (by omega) (by omega) hbn hn ha hok hs1 hs2
theorem sym_calls {o : Int → Int → Int} {ok : Int → Prop} (hno : Nice o) (B gp n cap a m b : Nat) (L : Addr) (w : World) (xs : List Int) (hn : n ≤ 1000000000) (h1 : a < m) (h2 : m < b) (hbn : b ≤ n) (hr : Row B gp n cap w xs) (ha : Asks gp L B w o ok) (hok : AllOk ok xs) (hs1 : Srt o a m xs) (hs2 : Srt o m b xs) :
    Calls Tryd.prog 86 #[.slice (some ⟨gp, 0, none⟩) n cap, .int .i64 (a : Int), .int .i64 (m : Int), .int .i64 (b : Int), Ord L] w (SymPost o B gp n cap w xs a b) :=
  sym_all hno B gp n cap L hn (b - a) a m b w xs (Nat.le_refl _) h1 h2 hbn hr ha hok hs1 hs2
set_option maxHeartbeats 4000000 in
set_option maxRecDepth 100000 in
theorem stable_calls {o : Int → Int → Int} {ok : Int → Prop} (hno : Nice o) (B gp n cap : Nat) (L : Addr) (w : World) (xs : List Int) (hn : n ≤ 100000000) (hr : Row B gp n cap w xs) (ha : Asks gp L B w o ok) (hok : AllOk ok xs) :
    Calls Tryd.prog 72 #[.slice (some ⟨gp, 0, none⟩) n cap, .int .i64 (n : Int), Ord L] w (SymPost o B gp n cap w xs 0 n) := by
  have HR := Aside0.mk hr
  have HX := Aside0.mk hr.len
  have HK := Aside0.mk (Kp.refl B gp w)
  have HN := Aside0.mk hn
  have HA := Aside0.mk ha
  have HOK := Aside0.mk hok
  have HNO := Aside0.mk hno
  have HI : Aside0 (∀ (a b : Nat) W ys, a ≤ b → b ≤ n → Row B gp n cap W ys → Kp B gp w W → Shuf 0 n xs ys → Calls Tryd.prog 85 #[.slice (some ⟨gp, 0, none⟩) n cap, .int .i64 (a : Int), .int .i64 (b : Int), Ord L] W (SymPost o B gp n cap W ys a b)) := ⟨fun a b W ys h1 h2 h3 h4 h5 => ins_calls hno B gp n cap a b L W ys h3 h1 h2 (by omega) (ha.move h4) (hok.perm h5.perm)⟩
  have HM : Aside0 (∀ (a m b : Nat) W ys, a < m → m < b → b ≤ n → Srt o a m ys → Srt o m b ys → Row B gp n cap W ys → Kp B gp w W → Shuf 0 n xs ys → Calls Tryd.prog 86 #[.slice (some ⟨gp, 0, none⟩) n cap, .int .i64 (a : Int), .int .i64 (m : Int), .int .i64 (b : Int), Ord L] W (SymPost o B gp n cap W ys a b)) := ⟨fun a m b W ys h1 h2 h3 s1 s2 h4 h5 h6 => sym_calls hno B gp n cap a m b L W ys (by omega) h1 h2 h3 h4 (ha.move h5) (hok.perm h6.perm) s1 s2⟩
  clear hr ha hok hno hn
  go_enter Tryd.func72, Tryd.ntmps72
  go_wp2
  go_loopw [7, 8] (fun v7 v8 W => ∃ (q a b : Nat) (ys : List Int), v7 = .int .i64 (a : Int) ∧ v8 = .int .i64 (b : Int) ∧ Aside0 (a = q * 20 ∧ b = (q + 1) * 20 ∧ a ≤ n) ∧ Aside0 (Pre o 20 q ys) ∧ Aside0 (Shuf 0 n xs ys) ∧ Aside0 (Row B gp n cap W ys) ∧ Aside0 (Kp B gp w W)) (fun v7 v8 _ => n + 20 - (intOf v8).toNat)
  case atStart => exact ⟨0, 0, 20, xs, rfl, rfl, ⟨rfl, rfl, Nat.zero_le _⟩, ⟨fun q hq => by omega⟩, ⟨Shuf.refl _ _ _⟩, HR, HK⟩
  case round =>
    clear HR HK
    obtain ⟨q, a, b, ys, rfl, rfl, HQ, HP, HS, HR, HK⟩ := hrel
    by_cases hle : b ≤ n
    · have d1 : decide ((b : Int) ≤ (n : Int)) = true := decide_eq_true (by omega)
      have d2 : decide (b ≤ n) = true := decide_eq_true hle
      have HLE := Aside0.mk hle
      have E1 : Aside0 (wrap64 ((b : Int) + 20) = ((b + 20 : Nat) : Int)) := ⟨by have := HN.out; exact (w64 (by omega) (by omega)).trans (by omega)⟩
      have SC := Aside0.mk (HI.out a b wr ys (by have := HQ.out; omega) hle HR.out HK.out HS.out)
      clear hle
      go_wp2_with (go_at_call 85; (with_reducible refine SC.out.mono ?_); rintro ee w2 ⟨rfl, zs, hz, hr2, hk2⟩; have HZ := Aside0.mk hz; have HR2 := Aside0.mk hr2; have HK2 := Aside0.mk (HK.out.trans hk2); clear hz hr2 hk2)
      rw [E1.out]
      refine ⟨⟨q + 1, b, b + 20, zs, rfl, rfl, ⟨by have := HQ.out; have := HLE.out; omega⟩, ⟨?_⟩, ⟨HS.out.trans (HZ.out.sh.wide (Nat.zero_le _) HLE.out)⟩, HR2, HK2⟩, by simp [intOf]; have := HLE.out; omega⟩
      have hz := HZ.out
      rw [HQ.out.1, HQ.out.2.1] at hz
      exact HP.out.step hz
    · have d1 : decide ((b : Int) ≤ (n : Int)) = false := decide_eq_false (by omega)
      have d2 : decide (b ≤ n) = false := decide_eq_false hle
      have HLE := Aside0.mk (show n < b by omega)
      have SC := Aside0.mk (HI.out a n wr ys HQ.out.2.2 (Nat.le_refl _) HR.out HK.out HS.out)
      clear hle
      go_wp2_with (go_at_call 85; (with_reducible refine SC.out.mono ?_); rintro ee w2 ⟨rfl, zs, hz, hr2, hk2⟩; have HZ := Aside0.mk hz; have HR2 := Aside0.mk hr2; have HK2 := Aside0.mk (HK.out.trans hk2); clear hz hr2 hk2)
      have HB0 : Aside0 (Blk o 20 n 0 zs) := ⟨by
        have hz := HZ.out
        have hb := HLE.out
        rw [HQ.out.1] at hz
        rw [HQ.out.2.1] at hb
        exact HP.out.whole hb hz⟩
      have HS2 := Aside0.mk (HS.out.trans (HZ.out.sh.wide (Nat.zero_le _) (Nat.le_refl _)))
      clear HP HS HR HK SC HZ HQ HLE d1 d2
      go_loopw [6] (fun v6 W => ∃ (bs : Nat) (ys : List Int), v6 = .int .i64 (bs : Int) ∧ Aside0 (0 < bs ∧ bs ≤ 2 * n + 20) ∧ Aside0 (Blk o bs n 0 ys) ∧ Aside0 (Shuf 0 n xs ys) ∧ Aside0 (Row B gp n cap W ys) ∧ Aside0 (Kp B gp w W)) (fun v6 _ => n - (intOf v6).toNat)
      case atStart => exact ⟨20, zs, rfl, ⟨by omega⟩, HB0, HS2, HR2, HK2⟩
      case round =>
        clear HB0 HS2 HR2 HK2
        obtain ⟨bs, ys, rfl, HBS, HBL, HS, HR, HK⟩ := hrel
        by_cases hlt : bs < n
        · have d1 : decide ((bs : Int) < (n : Int)) = true := decide_eq_true (by omega)
          have d2 : decide (bs < n) = true := decide_eq_true hlt
          have HLT := Aside0.mk hlt
          obtain ⟨b2, HB2⟩ : ∃ b2, Aside0 (b2 = 2 * bs) := ⟨_, ⟨rfl⟩⟩
          have E1 : Aside0 (wrap64 (2 * (bs : Int)) = (b2 : Int)) := ⟨by have := HN.out; have := HB2.out; exact (w64 (by omega) (by omega)).trans (by omega)⟩
          have E2 : Aside0 (wrap64 ((bs : Int) * 2) = (b2 : Int)) := ⟨by have := HN.out; have := HB2.out; exact (w64 (by omega) (by omega)).trans (by omega)⟩
          clear hlt
          go_wp2
          go_loopw [7, 8] (fun v7 v8 W => ∃ (q a b : Nat) (zs : List Int), v7 = .int .i64 (a : Int) ∧ v8 = .int .i64 (b : Int) ∧ Aside0 (a = q * (2 * bs) ∧ b = a + 2 * bs ∧ a ≤ n) ∧ Aside0 (Pre o (2 * bs) q zs) ∧ Aside0 (Blk o bs n (2 * q) zs) ∧ Aside0 (Shuf 0 n xs zs) ∧ Aside0 (Row B gp n cap W zs) ∧ Aside0 (Kp B gp w W)) (fun v7 v8 _ => n + 2 * bs - (intOf v8).toNat)
          case atStart => rw [E1.out]; exact ⟨0, 0, b2, ys, rfl, rfl, ⟨by have := HB2.out; omega⟩, ⟨fun q hq => by omega⟩, HBL, HS, HR, HK⟩
          case round =>
            clear HBL HS HR HK
            obtain ⟨q, a, b, zs, rfl, rfl, HQ, HP, HBL, HS, HR, HK⟩ := hrel
            have HTW : Aside0 (Srt o a (min (a + bs) n) zs ∧ Srt o (a + bs) (min (a + 2 * bs) n) zs) := ⟨by
              have := HBL.out.two
              rw [← HQ.out.1] at this
              exact this⟩
            obtain ⟨m, HMM⟩ : ∃ m, Aside0 (m = a + bs) := ⟨_, ⟨rfl⟩⟩
            have E3 : Aside0 (wrap64 ((a : Int) + (bs : Int)) = (m : Int)) := ⟨by have := HMM.out; have := HQ.out; have := HN.out; have := HLT.out; exact (w64 (by omega) (by omega)).trans (by omega)⟩
            by_cases hle : b ≤ n
            · have d3 : decide ((b : Int) ≤ (n : Int)) = true := decide_eq_true (by omega)
              have d4 : decide (b ≤ n) = true := decide_eq_true hle
              have HLE := Aside0.mk hle
              have E4 : Aside0 (wrap64 ((b : Int) + (b2 : Int)) = ((b + b2 : Nat) : Int)) := ⟨by have := HN.out; have := HB2.out; have := HLT.out; exact (w64 (by omega) (by omega)).trans (by omega)⟩
              have SC := Aside0.mk (HM.out a m b wr zs (by have := HMM.out; have := HBS.out; omega) (by have := HMM.out; have := HQ.out; have := HBS.out; omega) hle
                (by have h := HTW.out.1; rw [← HMM.out, Nat.min_eq_left (by have := HMM.out; have := HQ.out; omega)] at h; exact h)
                (by have h := HTW.out.2; rw [← HMM.out, ← HQ.out.2.1, Nat.min_eq_left hle] at h; exact h) HR.out HK.out HS.out)
              clear hle
              go_wp2_with (go_at_call 86; rw [E3.out]; (with_reducible refine SC.out.mono ?_); rintro ee w2 ⟨rfl, us, hu, hr2, hk2⟩; have HU := Aside0.mk hu; have HR2 := Aside0.mk hr2; have HK2 := Aside0.mk (HK.out.trans hk2); clear hu hr2 hk2)
              rw [E1.out, E4.out]
              have HMG : Aside0 (Mrg o (q * (2 * bs)) ((q + 1) * (2 * bs)) zs us) := ⟨by
                rw [suc q (2 * bs), ← HQ.out.1, ← HQ.out.2.1]
                exact HU.out⟩
              refine ⟨⟨q + 1, b, b + b2, us, rfl, rfl, ⟨?_⟩, ⟨HP.out.step HMG.out⟩, ⟨HBL.out.step HMG.out⟩, ⟨HS.out.trans (HU.out.sh.wide (Nat.zero_le _) HLE.out)⟩, HR2, HK2⟩, by simp [intOf]; have := HLE.out; have := HB2.out; have := HBS.out; omega⟩
              refine ⟨?_, by rw [HB2.out], HLE.out⟩
              rw [suc q (2 * bs), ← HQ.out.1, ← HQ.out.2.1]
            · have d3 : decide ((b : Int) ≤ (n : Int)) = false := decide_eq_false (by omega)
              have d4 : decide (b ≤ n) = false := decide_eq_false hle
              have HLE : Aside0 (n < (q + 1) * (2 * bs)) := ⟨by
                have := HQ.out
                rw [suc q (2 * bs), ← this.1]
                omega⟩
              have HLE2 := Aside0.mk (show n < b by omega)
              clear hle
              by_cases hm : m < n
              · have d5 : decide ((m : Int) < (n : Int)) = true := decide_eq_true (by omega)
                have d6 : decide (m < n) = true := decide_eq_true hm
                have SC := Aside0.mk (HM.out a m n wr zs (by have := HMM.out; have := HBS.out; omega) hm (Nat.le_refl _)
                  (by have h := HTW.out.1; rw [← HMM.out, Nat.min_eq_left (Nat.le_of_lt hm)] at h; exact h)
                  (by have h := HTW.out.2; rw [← HMM.out, ← HQ.out.2.1, Nat.min_eq_right (by have := HLE2.out; omega)] at h; exact h) HR.out HK.out HS.out)
                clear hm
                go_upto_if 54 with (fail)
                rw [E3.out]
                (first | rw [d5] | rw [d6])
                go_wp2_with (go_at_call 86; (with_reducible refine SC.out.mono ?_); rintro ee w2 ⟨rfl, us, hu, hr2, hk2⟩; have HU := Aside0.mk hu; have HR2 := Aside0.mk hr2; have HK2 := Aside0.mk (HK.out.trans hk2); clear hu hr2 hk2)
                rw [E2.out]
                have HMG : Aside0 (Mrg o (q * (2 * bs)) n zs us) := ⟨by rw [← HQ.out.1]; exact HU.out⟩
                refine ⟨⟨b2, us, rfl, ⟨by have := HB2.out; have := HBS.out; have := HLT.out; omega⟩, ⟨by rw [HB2.out]; exact double (HP.out.last HMG.out) HLE.out HMG.out.srt⟩, ⟨HS.out.trans (HU.out.sh.wide (Nat.zero_le _) (Nat.le_refl _))⟩, HR2, HK2⟩, by simp [intOf]; have := HB2.out; have := HBS.out; have := HLT.out; omega⟩
              · have d5 : decide ((m : Int) < (n : Int)) = false := decide_eq_false (by omega)
                have d6 : decide (m < n) = false := decide_eq_false hm
                have HMN := Aside0.mk (show n ≤ m by omega)
                clear hm
                go_upto_if 54 with (fail)
                rw [E3.out]
                (first | rw [d5] | rw [d6])
                go_wp2
                rw [E2.out]
                have HSS : Aside0 (Srt o (q * (2 * bs)) n zs) := ⟨by
                  have h := HTW.out.1
                  rw [← HMM.out, Nat.min_eq_right HMN.out, HQ.out.1] at h
                  exact h⟩
                refine ⟨⟨b2, zs, rfl, ⟨by have := HB2.out; have := HBS.out; have := HLT.out; omega⟩, ⟨by rw [HB2.out]; exact double HP.out HLE.out HSS.out⟩, HS, HR, HK⟩, by simp [intOf]; have := HB2.out; have := HBS.out; have := HLT.out; omega⟩
        · have d1 : decide ((bs : Int) < (n : Int)) = false := decide_eq_false (by omega)
          have d2 : decide (bs < n) = false := decide_eq_false hlt
          have HGE := Aside0.mk (show n ≤ bs by omega)
          clear hlt
          go_wp2
          go_end0
          exact ⟨rfl, ys, ⟨HS.out, HBL.out.whole HGE.out⟩, HR.out, HK.out⟩
set_option maxHeartbeats 1000000 in
theorem sort_calls {o : Int → Int → Int} {ok : Int → Prop} (hno : Nice o) (B gp n cap : Nat) (L : Addr) (w : World) (xs : List Int) (hn : n ≤ 100000000) (hr : Row B gp n cap w xs) (ha : Asks gp L B w o ok) (hok : AllOk ok xs) :
    Calls Tryd.prog 57 #[.slice (some ⟨gp, 0, none⟩) n cap, Ord L] w (SymPost o B gp n cap w xs 0 n) := by
  have SC := Aside0.mk (stable_calls hno B gp n cap L w xs hn hr ha hok)
  clear hr ha hok hno hn
  go_enter Tryd.func57, Tryd.ntmps57
  go_wp2_with (go_at_call 72; (with_reducible refine SC.out.mono ?_); rintro ee w2 ⟨rfl, us, hu, hr2, hk2⟩; have HU := Aside0.mk hu; have HR2 := Aside0.mk hr2; have HK2 := Aside0.mk hk2; clear hu hr2 hk2)
  go_end0
  exact ⟨rfl, us, HU.out, HR2.out, HK2.out⟩
end Go.Proofs.YtcmajhdgaeploaaDoor.Stab
