/- Bytes are written into a hash: walked. -/
import Derived.Test.YtfihbohdhcidbaaDoorYShaTake
import Derived.Test.YtfihbohdhcidbaaDoorYShaBl
namespace Go.Proofs.YtfihbohdhcidbaaDoor.Sha
open Go Go.RowKit Go.Proofs.YtfihbohdhcidbaaDoorW.PrintWords Go.Proofs.YtfihbohdhcidbaaDoorW.PrintLast Go.Proofs.YtfihbohdhcidbaaDoorW.PrintMore
set_option linter.unusedVariables false
set_option linter.unusedSimpArgs false

/-- A hash in memory: eight words, the row of what is left, how many bytes. -/
def HashAt (B : Nat) (w : World) (g : Nat) (s : S8) (rest : List UInt8) (long : Nat) (rv : Value) : Prop :=
  w.heap[g]? = some (.cells (hcells s rv (long : Int)) 93 (0, 0)) ∧ w.ownsRow B 5 1 rv (bl rest).length (nums .u8 (bl rest)) ∧ B ≤ g
theorem own_ne {B g n : Nat} {w : World} {cs : Array Value} {v : Value} {xs : List Value} (hb : w.heap[g]? = some (.cells cs 93 (0, 0))) (h : w.ownsRow B 5 1 v n xs) : v.ownBlock ≠ some g := by
  intro e
  obtain ⟨cells, hc⟩ := own_typed h g e
  rw [hb] at hc
  simp at hc
theorem slice_at (gr n c a b : Nat) (hb : b = a + 64) (ha : b ≤ n) (hc : n ≤ c) (W : World) :
    (Instr.slice 66 (.slice (some ⟨gr, 0, none⟩) n c) (some (.int .i64 (a : Int))) (some (.int .i64 (b : Int))) none).run Tryd.prog W = .ok (.slice (some ⟨gr, a, none⟩) 64 (c - a)) W := by
  subst hb
  obtain ⟨i0, hi, hzz⟩ := Option.map_eq_some_iff.1 info8
  simp only [Prod.mk.injEq] at hzz
  have ht := Tryd.underlying66
  have hel : Tryd.prog.elem 66 = 5 := by simp [Program.elem, ht]
  have hu : Tryd.prog.underlying 66 = some (.slice (Tryd.prog.elem 66)) := by rw [hel]; exact ht
  have hne : ¬ c = a := by omega
  rw [run_slice_lh W 66 (some ⟨gr, 0, none⟩) n c hu .i64 .i64 (a : Int) ((a + 64 : Nat) : Int) (by omega) (by omega) (by omega), hel]
  simp [sizeOf, typeInfo, hi, hzz.2.1, sliced, Result.andThen, hne, add_plain]
  omega
set_option maxHeartbeats 2000000 in
set_option maxRecDepth 100000 in
theorem write_calls (B g : Nat) (s : S8) (rest : List UInt8) (long : Nat) (rv : Value) (y : ByteArray) (w : World) (hK : Consts w) (h : HashAt B w g s rest long rv) (hB0 : 0 < B) (hBw : B ≤ w.heap.size)
    (hlen : rest.length + y.size ≤ 140737488355328) (hlong : long + y.size ≤ 9223372036854775807) :
    Calls Tryd.prog 43 #[.pointer (some ⟨g, 0, none⟩), .string y] w fun e w' => e = .returned (.tuple #[]) ∧
      (∃ rv', HashAt B w' g (eat s (rest ++ y.data.toList)).1 (eat s (rest ++ y.data.toList)).2 (long + y.size) rv' ∧ (rv'.ownBlock = none ∨ ∃ b, rv'.ownBlock = some b ∧ w.heap.size ≤ b)) ∧ Below B w w' ∧ KeepBut w w' g rv.ownBlock := by
  obtain ⟨hb, ho, hBg⟩ := h
  have NE := Aside0.mk (own_ne hb ho)
  have HG := Aside0.mk (show g ≠ 0 by omega)
  have HK := Aside0.mk hK
  have HO := Aside0.mk ho
  have BH := Aside0.mk hb
  have HL := Aside0.mk hlen
  have HBG := Aside0.mk hBg
  have HBW := Aside0.mk hBw
  have HB0 := Aside0.mk hB0
  have x0 : wrap64 ((long : Int) + (y.size : Int)) = ((long + y.size : Nat) : Int) := by unfold wrap64; omega
  obtain ⟨lg, hlg⟩ : ∃ lg, long + y.size = lg := ⟨_, rfl⟩
  rw [hlg] at x0 ⊢
  obtain ⟨L, hL⟩ : ∃ L, rest ++ y.data.toList = L := ⟨_, rfl⟩
  rw [hL]
  have hLl : L.length = rest.length + y.size := by rw [← hL, List.length_append, Array.length_toList]; rfl
  have HLB := Aside0.mk (show bl rest ++ bytesOf y = bl L by rw [← hL, bl_append]; rfl)
  have HLL := Aside0.mk (show L.length ≤ 140737488355328 by omega)
  clear hK ho hb hlen hlong hBg hBw hB0 hlg hL hLl
  obtain ⟨hc0, hc1, hc2, hc3, hc4, hc5, hc6, hc7, hc8, hc9, hf0, hf1, hf2, hf3, hf4, hf5, hf6, hf7, hf8, hf9⟩ := blk_all10 BH.out
  clear hc0 hc1 hc2 hc3 hc4 hc5 hc6 hc7 hf0 hf1 hf2 hf3 hf4 hf5 hf6 hf7
  go_enter Tryd.func43, Tryd.ntmps43
  go_wp2_with (first
    | ((with_reducible refine gate_dst (N := 20) rfl ?_); refine print_append_str (w0 := w) B rfl _ _ 66 9 5 rfl Tryd.underlying66 Tryd.underlying9 info8 rv (bl rest) y rfl rfl (own_move HO.out (fun k hk => Below.heap_setCell w ⟨g, 9, none⟩ _ k (fun e => NE.out (by rw [hk, e])))) ((Below.refl B w).setCell HBG.out _) (by simpa [World.setCell] using HBW.out) (by rw [bl_length]; exact HL.out) ?_; intro v1 w1 hown hb1 hgr; rw [HLB.out, bl_length] at hown; obtain ⟨A1, c1, rfl, hc1⟩ := own_shape hown; have n0_ := Aside0.mk (blk_grown (blk_put (cs := hcells s rv (long : Int)) (cs' := hcells s rv (lg : Int)) BH.out 9 _ rfl) hgr (fun e => NE.out e.symm)); have HO1 := Aside0.mk hown; have HB1 := Aside0.mk hb1; have n4_ := Aside0.mk (KeepBut.trans (keep_set (KeepBut.refl w g rv.ownBlock) 9 (.int .i64 (lg : Int))) (KeepBut.of_grown hgr g) (.inl rfl)); have HC1 := Aside0.mk hc1; clear hown hb1 hgr hc1 hc8 hc9 hf8 hf9 BH HO; have BH := n0_; clear n0_; obtain ⟨hc0, hc1, hc2, hc3, hc4, hc5, hc6, hc7, hc8, hc9, hf0, hf1, hf2, hf3, hf4, hf5, hf6, hf7, hf8, hf9⟩ := blk_all10 BH.out; clear hc0 hc1 hc2 hc3 hc4 hc5 hc6 hc7 hc9 hf0 hf1 hf2 hf3 hf4 hf5 hf6 hf7 hf9))
  have NE1 := Aside0.mk (own_ne BH.out HO1.out)
  have BH2 : Aside0 ((w1.setCell ⟨g, 8, none⟩ (.slice A1 L.length c1)).heap[g]? = some (.cells (hcells s (.slice A1 L.length c1) (lg : Int)) 93 (0, 0))) := ⟨blk_put (cs := hcells s rv (lg : Int)) BH.out 8 _ rfl⟩
  have HO2 : Aside0 ((w1.setCell ⟨g, 8, none⟩ (.slice A1 L.length c1)).ownsRow B 5 1 (.slice A1 L.length c1) L.length (nums .u8 (bl L))) := ⟨own_move HO1.out (fun k hk => Below.heap_setCell w1 ⟨g, 8, none⟩ _ k (fun e => NE1.out (by rw [hk, e])))⟩
  have HB2 : Aside0 (Below B w (w1.setCell ⟨g, 8, none⟩ (.slice A1 L.length c1))) := ⟨HB1.out.setCell HBG.out _⟩
  have HK2 : Aside0 (KeepBut w (w1.setCell ⟨g, 8, none⟩ (.slice A1 L.length c1)) g rv.ownBlock) := ⟨keep_set n4_.out 8 _⟩
  clear BH HO1 HB1 n4_ hc8 hf8
  generalize w1.setCell ⟨g, 8, none⟩ (.slice A1 L.length c1) = w2 at *
  go_loopw [4] (fun u4 w' => ∃ (m : Nat) (st : S8), 64 * m ≤ L.length ∧ u4 = .int .i64 ((64 * m : Nat) : Int) ∧ Aside0 (eat st (L.drop (64 * m)) = eat s L) ∧ Aside0 (w'.heap[g]? = some (.cells (hcells st (.slice A1 L.length c1) (lg : Int)) 93 (0, 0))) ∧ Aside0 (w'.ownsRow B 5 1 (.slice A1 L.length c1) L.length (nums .u8 (bl L))) ∧ Aside0 (Below B w w') ∧ Aside0 (KeepBut w w' g rv.ownBlock)) (fun u4 _ => L.length - (intOf u4).toNat)
  case atStart => exact ⟨0, s, by omega, rfl, ⟨rfl⟩, BH2, HO2, HB2, HK2⟩
  case round =>
    clear BH2 HO2 HB2 HK2
    obtain ⟨m, st, hm, rfl, HE, BH, HO, HB, HKB⟩ := hrel
    obtain ⟨am, ham⟩ : ∃ am, 64 * m = am := ⟨_, rfl⟩
    rw [ham] at hm HE
    rw [ham]
    have HN : Aside0 (64 * (m + 1) = am + 64) := ⟨by omega⟩
    clear ham
    have hlc := HC1.out
    have hll := HLL.out
    obtain ⟨n, hn⟩ : ∃ n, n = L.length := ⟨_, rfl⟩
    rw [← hn] at hm hlc hll ⊢ BH HO HC1
    have HNL := Aside0.mk hn
    clear hn
    obtain ⟨nm, hnm⟩ : ∃ nm, nm = n - am := ⟨_, rfl⟩
    have q1 : (n : Int) - (am : Int) = (nm : Int) := by omega
    have q0 : wrap64 (nm : Int) = (nm : Int) := wrapN (by omega)
    have x1 : wrap64 ((n : Int) - (am : Int)) = (nm : Int) := by rw [q1]; exact q0
    have X1 := Aside0.mk x1
    have Q0 := Aside0.mk q0
    clear x1 q0
    have HKW : Aside0 (Consts wr) := ⟨fun i hi => (HB.out.cell (p := ⟨0, i, none⟩) HB0.out).trans (HK.out i hi)⟩
    obtain ⟨hc0, hc1, hc2, hc3, hc4, hc5, hc6, hc7, hc8, hc9, hf0, hf1, hf2, hf3, hf4, hf5, hf6, hf7, hf8, hf9⟩ := blk_all10 BH.out
    clear hc0 hc1 hc2 hc3 hc4 hc5 hc6 hc7 hf0 hf1 hf2 hf3 hf4 hf5 hf6 hf7 hc9 hf9
    by_cases h64 : 64 ≤ nm
    · have d1 : decide ((nm : Int) ≥ 64) = true := decide_eq_true (by omega)
      obtain ⟨a64, ha64⟩ : ∃ a64, a64 = am + 64 := ⟨_, rfl⟩
      have q2 : (am : Int) + 64 = (a64 : Int) := by omega
      have hw3 : a64 ≤ 4611686018427387904 := by omega
      have hform : ∃ gr, A1 = some ⟨gr, 0, none⟩ ∧ gr ≠ g := by
        rcases HO.out.2 with ⟨e, hz⟩ | ⟨gr, cap, cur, e, _, hh, _⟩
        · omega
        · injection e with e1 e2 e3
          exact ⟨gr, e1, fun z => by rw [z] at hh; rw [BH.out] at hh; simp at hh⟩
      obtain ⟨gr, rfl, hgr⟩ := hform
      have hsl := slice_at gr n c1 am a64 ha64 (by omega) hlc
      have hcl : ∀ j, j < 64 → wr.cell? ⟨gr, am + j, none⟩ = some (.int .u8 ((((((L.drop am).take 64)).getD j 0).toNat : Nat) : Int)) := by
        intro j hj
        have h := HO.out.cells (g := gr) rfl (am + j) (.int .u8 ((bl L).getD (am + j) 0)) (by simp [nums, bl_length, List.getD_eq_getElem?_getD, List.getElem?_eq_getElem (show am + j < (bl L).length by rw [bl_length]; have := HNL.out; omega)])
        rw [add_plain, bl_at] at h
        rw [h]
        congr 4
        simp only [List.getD_eq_getElem?_getD]
        rw [List.getElem?_take_of_lt hj, List.getElem?_drop]
      have HCL := Aside0.mk hcl
      have HGR := Aside0.mk hgr
      have HE2 : Aside0 (eat (take st ((L.drop am).take 64)) (L.drop a64) = eat s L) := ⟨by rw [← HE.out, ha64, eat_step st (L.drop am) (by rw [List.length_drop]; have := HNL.out; omega), List.drop_drop]⟩
      have HM := Aside0.mk (show a64 ≤ n by omega)
      have HN2 := Aside0.mk (show 64 * (m + 1) = a64 by rw [ha64]; exact HN.out)
      have HA := Aside0.mk (show am < a64 by omega)
      have HBR := Aside0.mk (Nat.le_trans HBW.out HB.out.size)
      have d2 : decide (64 ≤ (nm : Int)) = true := decide_eq_true (by omega)
      clear hm hlc hll HE hcl hgr h64 HC1 HN ha64 hnm
      have q3 : wrap64 (a64 : Int) = (a64 : Int) := wrapN hw3
      have x2 : wrap64 ((am : Int) + 64) = (a64 : Int) := by rw [q2]; exact q3
      have x1 := X1.out
      have q0 := Q0.out
      clear hw3 X1 Q0
      go_wp2_with (first | (go_at_call 67; (with_reducible refine (take_calls B g gr am (c1 - am) st _ (lg : Int) ((L.drop am).take 64) _ HKW.out HG.out HBG.out HBR.out BH.out HCL.out).mono ?_); rintro e w3 ⟨rfl, hb3, hk3, hbe3⟩; have BH3 := Aside0.mk hb3; have HO3 := Aside0.mk (own_move (w1 := w3) HO.out (fun k hk => hk3.2 k (by obtain ⟨cells, hcc⟩ := own_typed HO.out k hk; exact blk_lt hcc) (fun e => by rw [e] at hk; exact HGR.out (Option.some.inj hk)) (by simp))); have HB3 := Aside0.mk (HB.out.trans hbe3); have HK3 := Aside0.mk (KeepBut.trans HKB.out (⟨hk3.1, fun i hi h1 _ => hk3.2 i hi h1 (by simp)⟩ : KeepBut wr w3 g rv.ownBlock) (.inl rfl)); clear hb3 hk3 hbe3 hc8 hf8 BH HO HB HKB))
      have Q3 := Aside0.mk q3
      clear x0 x1 x2 q0 q1 q2 q3
      rw [Q3.out]
      refine ⟨?_, by simp [intOf]; have := HM.out; have := HA.out; omega⟩
      exact ⟨m + 1, take st ((L.drop am).take 64), by rw [HN2.out]; exact HM.out, by rw [HN2.out], by rw [HN2.out]; exact HE2, BH3, HO3, HB3, HK3⟩
    · have d1 : decide ((nm : Int) ≥ 64) = false := decide_eq_false (by omega)
      have d2 : decide (64 ≤ (nm : Int)) = false := decide_eq_false (by omega)
      obtain ⟨i0, hi, hzz⟩ := Option.map_eq_some_iff.1 info8
      simp only [Prod.mk.injEq] at hzz
      have hbl : (bl L).length = n := by rw [bl_length]; exact HNL.out.symm
      have hdr := print_drop_of (P := Tryd.prog) (Value.int .u8) (0 : Int) 66 5 .i64 Tryd.underlying66 hi hzz.2.1 A1 c1 (bl L) (am : Int) (by omega) (by omega) (by omega)
      obtain ⟨A2, hsl, hrd, hcap⟩ := hdr
      rw [Int.toNat_natCast, List.length_drop, hbl, ← hnm] at hsl hrd
      have HR : Aside0 (ReadsInt wr .u8 A2 nm ((bl L).drop am)) := ⟨hrd wr (own_reads' HO.out)⟩
      have HF : Aside0 (eat s L = (st, L.drop am)) := ⟨by rw [← HE.out, eat_short st (L.drop am) (by rw [List.length_drop]; have := HNL.out; omega)]⟩
      have HBR := Aside0.mk (Nat.le_trans HBW.out HB.out.size)
      have HSM := Aside0.mk (show nm ≤ 140737488355328 by omega)
      have HDL := Aside0.mk (show ([] ++ (bl L).drop am) = bl (L.drop am) by rw [List.nil_append, bl_drop])
      clear hm hlc hll HE h64 HC1 hi hzz hbl hrd hcap i0 hnm HN
      have x1 := X1.out
      have q0 := Q0.out
      clear X1 Q0
      go_wp2_with (first | ((with_reducible refine gate_dst (N := 50) rfl ?_); refine print_append_row (w0 := w) B rfl _ _ 66 5 .u8 1 rfl Tryd.underlying66 info8 (by decide) (.slice none 0 0) [] ((bl L).drop am) A2 nm (c1 - am) rfl rfl ⟨rfl, .inl ⟨rfl, rfl⟩⟩ HR.out HB.out HBR.out (by have := HSM.out; simp; omega) ?_; intro v2 w3 hown hb3 hgr hat; rw [HDL.out] at hown; obtain ⟨A3, c3, rfl, hc3⟩ := own_shape hown; have BH3 := Aside0.mk (blk_grown BH.out hgr (by simp [Value.ownBlock])); have HO3 := Aside0.mk hown; have HB3 := Aside0.mk hb3; have HK3 := Aside0.mk (KeepBut.trans HKB.out (⟨hgr.size, fun i hi _ _ => hgr.block i hi (by simp [Value.ownBlock])⟩ : KeepBut wr w3 g rv.ownBlock) (.inl rfl)); have HAT := Aside0.mk (show (Value.slice A3 (bl (L.drop am)).length c3).ownBlock = none ∨ ∃ b, (Value.slice A3 (bl (L.drop am)).length c3).ownBlock = some b ∧ w.heap.size ≤ b from hat.imp (fun e => e.trans (by simp [Value.ownBlock])) (fun ⟨b, e, hb⟩ => ⟨b, e, Nat.le_trans HKB.out.1 hb⟩)); clear hown hb3 hgr hat hc3 hc8 hf8 BH HO HB HKB; obtain ⟨hc0, hc1, hc2, hc3, hc4, hc5, hc6, hc7, hc8, hc9, hf0, hf1, hf2, hf3, hf4, hf5, hf6, hf7, hf8, hf9⟩ := blk_all10 BH3.out; clear hc0 hc1 hc2 hc3 hc4 hc5 hc6 hc7 hc9 hf0 hf1 hf2 hf3 hf4 hf5 hf6 hf7 hf9))
      have NE3 := Aside0.mk (own_ne BH3.out HO3.out)
      go_end0
      refine ⟨rfl, ⟨_, ⟨?_, ?_, HBG.out⟩, HAT.out⟩, HB3.out.setCell HBG.out _, keep_set HK3.out 8 _⟩
      · rw [HF.out]
        exact blk_put (cs := hcells st (.slice A1 n c1) (lg : Int)) BH3.out 8 _ rfl
      · rw [HF.out]
        exact own_move HO3.out (fun k hk => Below.heap_setCell _ ⟨g, 8, none⟩ _ k (fun e => NE3.out (by rw [hk, e])))
end Go.Proofs.YtfihbohdhcidbaaDoor.Sha
