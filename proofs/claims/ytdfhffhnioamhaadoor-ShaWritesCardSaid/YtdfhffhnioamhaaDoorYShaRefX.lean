/- The document's words of a block: walked. -/
import Derived.Test.YtdfhffhnioamhaaDoorYShaRefW
namespace Go.Proofs.YtdfhffhnioamhaaDoor.Sha
open Go Go.RowKit Go.Proofs.YtdfhffhnioamhaaDoorW.PrintWords Go.Proofs.YtdfhffhnioamhaaDoorW.PrintLast Go.Proofs.YtdfhffhnioamhaaDoorW.PrintMore
set_option linter.unusedVariables false
set_option linter.unusedSimpArgs false

set_option maxHeartbeats 1000000 in
set_option maxRecDepth 100000 in
theorem rwords_calls (s : ByteArray) (hs : s.size = 64) (w : World) : Calls Tryd.prog 47 #[.string s] w fun e w' => e = .returned (.agg (cw 64 (spread s.data.toList))) ∧ Below w.heap.size w w' := by
  have hll : s.data.toList.length = 64 := (data_length s).trans hs
  have HLL := Aside0.mk hll
  have HSZ := Aside0.mk hs
  clear hll
  have HB := Aside0.mk (Below.refl w.heap.size w)
  go_enter Tryd.func47, Tryd.ntmps47
  go_wp2_with (first
    | ((with_reducible refine gate_dst (N := 2) rfl ?_); refine box_event ?hg (N := 2) ?hd (cs := cw 64 []) (t := 69) ?hr ?_; (case hd => rfl); (case hg => rfl); (case hr => first | (go_simp; done) | (go_simp; rfl)); intro g2 hg wb_ hbox hb; have n0_ := Aside0.mk (below_step HB.out hb); have n1_ := Aside0.mk hbox; have n3_ := Aside0.mk ((by rw [hg]; exact (below_size HB.out) : w.heap.size ≤ g2)); clear HB; have HB := n0_; have BR := n1_; have GR := n3_; clear n0_ n1_ n3_; clear hb hbox hg)
    | ((with_reducible refine gate_dst (N := 3) rfl ?_); refine box_event ?hg (N := 3) ?hd (cs := cw 64 []) (t := 69) ?hr ?_; (case hd => rfl); (case hg => rfl); (case hr => first | (go_simp; done) | (go_simp; rfl)); intro gb hg wb_ hbox hb; have n0_ := Aside0.mk (below_step HB.out hb); have n1_ := Aside0.mk hbox; have n2_ := Aside0.mk (blk_below BR.out hb); have n3_ := Aside0.mk ((by rw [hg]; exact (below_size HB.out) : w.heap.size ≤ gb)); have n4_ := Aside0.mk (show g2 ≠ gb by rw [hg]; have := blk_lt BR.out; omega); clear HB BR; have HB := n0_; have BK := n1_; have BR := n2_; have GE := n3_; have NE := n4_; clear n0_ n1_ n2_ n3_ n4_; clear hb hbox hg))
  go_loopw [4] (fun u4 w' => ∃ k : Nat, k ≤ 16 ∧ u4 = .int .i64 (k : Int) ∧ Aside0 (w'.heap[gb]? = some (.cells (cw 64 (first16 s.data.toList k)) 69 (0, 0))) ∧ Aside0 (w'.heap[g2]? = some (.cells (cw 64 []) 69 (0, 0))) ∧ Aside0 (Below w.heap.size w w')) (fun u4 _ => 16 - (intOf u4).toNat)
  case atStart => exact ⟨0, by omega, rfl, BK, BR, HB⟩
  case round =>
    clear BK BR HB
    obtain ⟨k, hk, rfl, BK, BR, HB⟩ := hrel
    by_cases h16 : k < 16
    · have d1 : decide ((k : Int) < 16) = true := decide_eq_true (by omega)
      have hlen := first16_length s.data.toList k
      have f0 := blk_frozen BK.out k
      have f1 : wr.cell? ⟨gb, k, none⟩ = some (.int .u32 0) := (blk_cell BK.out k).trans (by have h := cw_next (n := 64) (l := first16 s.data.toList k) (by omega); rw [hlen] at h; exact h)
      have hset : (cw 64 (first16 s.data.toList k)).setIfInBounds k (.int .u32 ((w4 s.data.toList k).toNat : Int)) = cw 64 (first16 s.data.toList (k + 1)) := by have h := cw_set (n := 64) (l := first16 s.data.toList k) (w4 s.data.toList k) (by omega); rw [hlen] at h; exact h
      have hx : (s.extract (4 * k) (4 * k + 4)).data.toList = (s.data.toList.drop (4 * k)).take 4 := by
        rw [ByteArray.data_extract, Array.toList_extract, List.extract_eq_take_drop, show 4 * k + 4 - 4 * k = 4 by omega]
      have hxs : (s.extract (4 * k) (4 * k + 4)).size = 4 := by rw [ByteArray.size_extract, hs]; omega
      have hnum := w4_num s.data.toList k (by rw [HLL.out]; omega)
      rw [← hx] at hnum
      have ht := num_told (s.extract (4 * k) (4 * k + 4)) 4 hxs (Nat.le_refl 4)
      rw [hnum] at ht
      obtain ⟨a, ha⟩ : ∃ a, 4 * k = a := ⟨_, rfl⟩
      rw [ha] at ht
      have HT := Aside0.mk ht
      have HS := Aside0.mk hset
      have HK := Aside0.mk (show k + 1 ≤ 16 by omega)
      have hsl : (Instr.slice 9 (.string s) (some (.int .i64 (4 * (k : Int)))) (some (.int .i64 (4 * (k : Int) + 4))) none).run Tryd.prog wr = .ok (.string (s.extract a (a + 4))) wr := by
        have h := run_slice_string (P := Tryd.prog) wr 9 s .i64 .i64 (4 * (k : Int)) (4 * (k : Int) + 4) Tryd.underlying9 (by omega) (by omega) (by rw [hs]; omega)
        rw [show (4 * (k : Int)).toNat = a by omega, show (4 * (k : Int) + 4).toNat = a + 4 by omega] at h
        exact h
      have hwr : IntKind.u32.wrap ((w4 s.data.toList k).toNat : Int) = ((w4 s.data.toList k).toNat : Int) := wrap_toNat _
      have HW := Aside0.mk hwr
      generalize w4 s.data.toList k = x at *
      clear hset hlen hx hxs hnum ht hwr ha
      go_wp2_with (first | (go_at_call 52; (with_reducible refine (HT.out _).mono ?_); rintro e w_ ⟨rfl, rfl⟩))
      refine ⟨?_, by simp [intOf]; have := HK.out; omega⟩
      exact ⟨k + 1, HK.out, by go_num, ⟨blk_put (cs := cw 64 (first16 s.data.toList k)) BK.out k _ HS.out⟩, ⟨(Below.heap_setCell w_ ⟨gb, k, none⟩ _ g2 NE.out).trans BR.out⟩, ⟨below_set HB.out GE.out⟩⟩
    · obtain rfl : k = 16 := by omega
      have d1 : decide (((16 : Nat) : Int) < 16) = false := by decide
      clear h16 hk
      go_wp2
      go_loopw [5] (fun u5 w' => ∃ n : Nat, n ≤ 48 ∧ u5 = .int .i64 ((16 + n : Nat) : Int) ∧ Aside0 (w'.heap[gb]? = some (.cells (cw 64 (expand (first16 s.data.toList 16) n)) 69 (0, 0))) ∧ Aside0 (w'.heap[g2]? = some (.cells (cw 64 []) 69 (0, 0))) ∧ Aside0 (Below w.heap.size w w')) (fun u5 _ => 64 - (intOf u5).toNat)
      case atStart => exact ⟨0, by omega, rfl, BK, BR, HB⟩
      case round =>
        clear BK BR HB d1
        obtain ⟨n, hn, rfl, BK, BR, HB⟩ := hrel
        obtain ⟨i, hi⟩ : ∃ i, 16 + n = i := ⟨_, rfl⟩
        rw [hi]
        by_cases h48 : n < 48
        · have d1 : decide ((i : Int) < 64) = true := decide_eq_true (by omega)
          have hL : (expand (first16 s.data.toList 16) n).length = i := by rw [expand_length, first16_length]; omega
          have hE : expand (first16 s.data.toList 16) (n + 1) = expand (first16 s.data.toList 16) n ++ [nextW (expand (first16 s.data.toList 16) n) i] := by rw [expand, first16_length, hi]
          generalize expand (first16 s.data.toList 16) n = L at *
          obtain ⟨i2, hi2⟩ : ∃ j, j = i - 2 := ⟨_, rfl⟩
          obtain ⟨i7, hi7⟩ : ∃ j, j = i - 7 := ⟨_, rfl⟩
          obtain ⟨i15, hi15⟩ : ∃ j, j = i - 15 := ⟨_, rfl⟩
          obtain ⟨i16, hi16⟩ : ∃ j, j = i - 16 := ⟨_, rfl⟩
          have x2 : wrap64 ((i : Int) - 2) = (i2 : Int) := by unfold wrap64; omega
          have x7 : wrap64 ((i : Int) - 7) = (i7 : Int) := by unfold wrap64; omega
          have x15 : wrap64 ((i : Int) - 15) = (i15 : Int) := by unfold wrap64; omega
          have x16 : wrap64 ((i : Int) - 16) = (i16 : Int) := by unfold wrap64; omega
          have w7 : IntKind.i64.wrap ((i : Int) - 7) = (i7 : Int) := by rw [IntKind.wrap_i64]; omega
          have w16 : IntKind.i64.wrap ((i : Int) - 16) = (i16 : Int) := by rw [IntKind.wrap_i64]; omega
          have v7 : IntKind.i64.wrap (i7 : Int) = (i7 : Int) := by rw [IntKind.wrap_i64]; omega
          have v16 : IntKind.i64.wrap (i16 : Int) = (i16 : Int) := by rw [IntKind.wrap_i64]; omega
          have q2 : (i : Int) - 2 = (i2 : Int) := by omega
          have q7 : (i : Int) - 7 = (i7 : Int) := by omega
          have q15 : (i : Int) - 15 = (i15 : Int) := by omega
          have q16 : (i : Int) - 16 = (i16 : Int) := by omega
          have b2 := blk_at BK.out (j := i2) (by omega)
          have b7 := blk_at BK.out (j := i7) (by omega)
          have b15 := blk_at BK.out (j := i15) (by omega)
          have b16 := blk_at BK.out (j := i16) (by omega)
          have p2 : i2 < 64 := by omega
          have p7 : i7 < 64 := by omega
          have p15 : i15 < 64 := by omega
          have p16 : i16 < 64 := by omega
          have p0 : i < 64 := by omega
          have n16 : (⟨gb, i, none⟩ : Addr) ≠ ⟨gb, i16, none⟩ := fun z => by injection z with _ z2 _; omega
          have n7 : (⟨gb, i, none⟩ : Addr) ≠ ⟨gb, i7, none⟩ := fun z => by injection z with _ z2 _; omega
          have N16 := Aside0.mk n16
          have N7 := Aside0.mk n7
          clear n16 n7
          have r16 : (i16 : Int) < 64 := by omega
          have r7 : (i7 : Int) < 64 := by omega
          have r0 : (i : Int) < 64 := by omega
          have z16 : (0 : Int) ≤ (i16 : Int) := by omega
          have z7 : (0 : Int) ≤ (i7 : Int) := by omega
          have z0 : (0 : Int) ≤ (i : Int) := by omega
          have f0 := blk_frozen BK.out i
          have f1 : wr.cell? ⟨gb, i, none⟩ = some (.int .u32 0) := (blk_cell BK.out i).trans (by have h := cw_next (n := 64) (l := L) (by omega); rw [hL] at h; exact h)
          have hN : nextW L i = wd L i16 + sig0 (wd L i15) + wd L i7 + sig1 (wd L i2) := by unfold nextW; rw [← hi2, ← hi7, ← hi15, ← hi16]
          generalize wd L i2 = y at *
          generalize wd L i7 = b at *
          generalize wd L i15 = x at *
          generalize wd L i16 = a at *
          have hset : (cw 64 L).setIfInBounds i (.int .u32 ((nextW L i).toNat : Int)) = cw 64 (expand (first16 s.data.toList 16) (n + 1)) := by have h := cw_set (n := 64) (l := L) (nextW L i) (by omega); rw [hL] at h; rw [hE]; exact h
          have hw : (((((a.toNat : Int) + (b.toNat : Int)) % 4294967296 + Go.bits .xor .u32 (Go.bits .xor .u32 ((rr x 7).toNat : Int) ((rr x 18).toNat : Int)) ((x.toNat : Int) / 8)) % 4294967296 + Go.bits .xor .u32 (Go.bits .xor .u32 ((rr y 17).toNat : Int) ((rr y 19).toNat : Int)) ((y.toNat : Int) / 1024)) % 4294967296) = ((nextW L i).toNat : Int) := by
            have e0 : (x.toNat : Int) / (8 : Int) = ((x >>> 3).toNat : Int) := n_shr x 3
            have e1 : (y.toNat : Int) / (1024 : Int) = ((y >>> 10).toNat : Int) := n_shr y 10
            rw [e0, e1, n_xor, n_xor, n_xor, n_xor, m_add, m_add, m_add, hN]
            have e : a + sig0 x + b + sig1 y = a + b + sig0 x + sig1 y := by rw [BitVec.add_assoc a (sig0 x) b, BitVec.add_comm (sig0 x) b, ← BitVec.add_assoc]
            rw [e]
            rfl
          have HW := Aside0.mk hw
          have HS := Aside0.mk hset
          have HI := Aside0.mk (show 16 + (n + 1) = i + 1 by omega)
          have HN := Aside0.mk (show n + 1 ≤ 48 by omega)
          clear hw hset hE hN hi2 hi7 hi15 hi16 hi hL h48 hn
          go_wp2_with fail
          go_quiet (fail)
          go_upto_region 10 with fail
          go_region_held3 (fun w' => w'.cell? ⟨gb, i16, none⟩ = some (.int .u32 (a.toNat : Int)) ∧ w'.cell? ⟨gb, i7, none⟩ = some (.int .u32 (b.toNat : Int))) (first | exact ⟨(World.cell?_setCell_other _ _ _ _ N16.out).trans b16, (World.cell?_setCell_other _ _ _ _ N7.out).trans b7⟩ | go_keep)
            (first | (go_at_call 48; (with_reducible first | refine (rturn7 x _).mono ?_ | refine (rturn18 x _).mono ?_ | refine (rturn17 y _).mono ?_ | refine (rturn19 y _).mono ?_); rintro e_ w_ ⟨rfl, m_, rfl⟩))
          all_goals go_wp2
          refine ⟨?_, by simp [intOf]; omega⟩
          repeat apply Exists.intro
          refine ⟨?rel, rfl⟩
          refine ⟨n + 1, HN.out, by rw [HI.out]; go_num, ⟨?_⟩, ⟨?_⟩, ⟨?_⟩⟩
          · refine blk_put (cs := cw 64 L) ?_ i _ (by rw [HW.out]; exact HS.out)
            (with_reducible repeat (first | refine blk_drewN ?_ _ | refine blk_drew ?_))
            exact BK.out
          · exact (Below.heap_setCell _ ⟨gb, i, none⟩ _ g2 NE.out).trans BR.out
          · exact below_set (pw_below_drewN HB.out _) GE.out
        · obtain rfl : n = 48 := by omega
          obtain rfl : i = 64 := by omega
          have d1 : decide (((64 : Nat) : Int) < 64) = false := by decide
          have HZ := Aside0.mk (size64 (spread s.data.toList) (by rw [spread_length]; omega))
          have HZ0 := Aside0.mk (show (cw 64 []).size = (cw 64 (spread s.data.toList)).size by rw [cw_size (n := 64) (l := []) (by decide), cw_size (by rw [spread_length]; omega)])
          replace BK : Aside0 (wr.heap[gb]? = some (.cells (cw 64 (spread s.data.toList)) 69 (0, 0))) := BK
          clear hi hn h48
          go_wp2_with (first
            | ((with_reducible refine gate_load (t := 69) (p := 3) rfl ?_); refine wpList_load_row rfl 69 (Operand.tmp 3) rfl gb rfl 69 (cw 64 (spread s.data.toList)) (0, 0) _ BK.out Tryd.underlying69 rfl HZ.out ?_; (try simp only [Act.put, List.setIfInBounds_toArray, List.set_cons_zero, List.set_cons_succ]))
            | ((with_reducible refine gate_store (t := 69) (p := 2) rfl ?_); refine store_all rfl 69 (.tmp 2) _ rfl g2 _ rfl rfl 69 _ BR.out HZ.out HZ0.out (cw_one _ _) ?_; intro ws_ hrow_ hgr_ hbl_; have q_ := Aside0.mk (hbl_ w w.heap.size GR.out HB.out); clear HB; have HB := q_; clear q_; clear BR; have BR := Aside0.mk hrow_; clear hrow_ hgr_ hbl_; (try simp only [Act.put, List.setIfInBounds_toArray, List.set_cons_zero, List.set_cons_succ])))
          refine bodyPost_ret (v := .agg (cw 64 (spread s.data.toList))) ?_ rfl ⟨rfl, HB.out⟩
          exact results_cell_row rfl _ _ g2 69 _ (0, 0) _ rfl BR.out Tryd.underlying69 rfl HZ.out
end Go.Proofs.YtdfhffhnioamhaaDoor.Sha
