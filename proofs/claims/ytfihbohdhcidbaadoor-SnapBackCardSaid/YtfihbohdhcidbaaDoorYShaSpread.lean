/- The words of a block: walked. -/
import Derived.Test.YtfihbohdhcidbaaDoorYShaRot
import Derived.Test.YtfihbohdhcidbaaDoorYStore
import Derived.BigRegion
import Derived.BigQuiet
import Derived.Deep.WholeRow
namespace Go.Proofs.YtfihbohdhcidbaaDoor.Sha
open Go Go.RowKit Go.Proofs.YtfihbohdhcidbaaDoorW.PrintWords Go.Proofs.YtfihbohdhcidbaaDoorW.PrintLast Go.Proofs.YtfihbohdhcidbaaDoorW.PrintMore
set_option linter.unusedVariables false
set_option linter.unusedSimpArgs false

/-- Words as values; the array's cells while it is filled. -/
def enc (x : W32) : Value := .int .u32 (x.toNat : Int)
def cw (n : Nat) (l : List W32) : Array Value := (l.map enc ++ List.replicate (n - l.length) (enc 0)).toArray
theorem cw_size {n : Nat} {l : List W32} (h : l.length ≤ n) : (cw n l).size = n := by simp [cw]; omega
theorem cw_at {n : Nat} {l : List W32} {j : Nat} (h : j < l.length) : (cw n l)[j]? = some (.int .u32 ((wd l j).toNat : Int)) := by
  simp only [cw, List.getElem?_toArray]
  rw [List.getElem?_append_left (by simpa using h)]
  simp [wd, enc, List.getElem?_eq_getElem h, List.getD_eq_getElem?_getD]
theorem cw_set {n : Nat} {l : List W32} (x : W32) (h : l.length < n) : (cw n l).setIfInBounds l.length (.int .u32 (x.toNat : Int)) = cw n (l ++ [x]) := by
  obtain ⟨m, hm⟩ : ∃ m, n - l.length = m + 1 := ⟨n - l.length - 1, by omega⟩
  simp only [cw, List.setIfInBounds_toArray, List.length_append, List.length_singleton, List.map_append, List.map_cons, List.map_nil, hm, show n - (l.length + 1) = m by omega, List.replicate_succ]
  congr 1
  rw [List.set_append_right _ _ (by simp)]
  simp [enc]
theorem cw_next {n : Nat} {l : List W32} (h : l.length < n) : (cw n l)[l.length]? = some (.int .u32 0) := by
  obtain ⟨m, hm⟩ : ∃ m, n - l.length = m + 1 := ⟨n - l.length - 1, by omega⟩
  simp only [cw, List.getElem?_toArray, hm, List.replicate_succ]
  rw [List.getElem?_append_right (by simp)]
  simp [enc]
theorem cw_one (n : Nat) (l : List W32) : (cw n l).all (·.oneCell') = true := by
  rw [Array.all_eq_true']
  intro u hu
  simp only [cw, List.mem_toArray, List.mem_append, List.mem_map, List.mem_replicate] at hu
  rcases hu with ⟨x, _, rfl⟩ | ⟨_, rfl⟩ <;> rfl
theorem blk_at {w : World} {g n : Nat} {l : List W32} {t : TypeId} (h : w.heap[g]? = some (.cells (cw n l) t (0, 0))) {j : Nat} (hj : j < l.length) : w.cell? ⟨g, j, none⟩ = some (.int .u32 ((wd l j).toNat : Int)) :=
  (blk_cell h j).trans (cw_at hj)

set_option maxHeartbeats 1000000 in
set_option maxRecDepth 100000 in
theorem spread_calls (g o c : Nat) (l : List UInt8) (w : World) (hc : ∀ j, j < 64 → w.cell? ⟨g, o + j, none⟩ = some (.int .u8 (((l.getD j 0).toNat : Nat) : Int))) :
    Calls Tryd.prog 78 #[.slice (some ⟨g, o, none⟩) 64 c] w fun e w' => e = .returned (.agg (cw 64 (spread l))) ∧ Below w.heap.size w w' := by
  have HC := Aside0.mk hc
  clear hc
  have HB := Aside0.mk (Below.refl w.heap.size w)
  go_enter Tryd.func78, Tryd.ntmps78
  go_wp2_with ((with_reducible refine gate_dst (N := 2) rfl ?_); refine box_event ?hg (N := 2) ?hd (cs := cw 64 []) (t := 105) ?hr ?_; (case hd => rfl); (case hg => rfl); (case hr => first | (go_simp; done) | (go_simp; rfl)); intro gb hg wb_ hbox hb; have n0_ := Aside0.mk (below_step HB.out hb); have n1_ := Aside0.mk hbox; have n3_ := Aside0.mk ((by rw [hg]; exact (below_size HB.out) : w.heap.size ≤ gb)); clear HB; have HB := n0_; have BK := n1_; have GE := n3_; clear n0_ n1_ n3_; clear hb hbox hg)
  go_loopw [7] (fun u7 w' => ∃ k : Nat, k ≤ 16 ∧ u7 = .int .i64 (k : Int) ∧ Aside0 (w'.heap[gb]? = some (.cells (cw 64 (first16 l k)) 105 (0, 0))) ∧ Aside0 (Below w.heap.size w w')) (fun u7 _ => 16 - (intOf u7).toNat)
  case atStart => exact ⟨0, by omega, rfl, BK, HB⟩
  case round =>
    clear BK HB
    obtain ⟨k, hk, rfl, BK, HB⟩ := hrel
    by_cases h16 : k < 16
    · have d1 : decide ((k : Int) < 16) = true := decide_eq_true (by omega)
      have x0 : wrap64 (4 * (k : Int)) = ((4 * k : Nat) : Int) := by unfold wrap64; omega
      have x1 : wrap64 (((4 * k : Nat) : Int) + 1) = ((4 * k + 1 : Nat) : Int) := by unfold wrap64; omega
      have x2 : wrap64 (((4 * k : Nat) : Int) + 2) = ((4 * k + 2 : Nat) : Int) := by unfold wrap64; omega
      have x3 : wrap64 (((4 * k : Nat) : Int) + 3) = ((4 * k + 3 : Nat) : Int) := by unfold wrap64; omega
      have b0 := (HB.out.cell (World.block_lt_of_cell? w _ (HC.out (4 * k) (by omega)))).trans (HC.out (4 * k) (by omega))
      have b1 := (HB.out.cell (World.block_lt_of_cell? w _ (HC.out (4 * k + 1) (by omega)))).trans (HC.out (4 * k + 1) (by omega))
      have b2 := (HB.out.cell (World.block_lt_of_cell? w _ (HC.out (4 * k + 2) (by omega)))).trans (HC.out (4 * k + 2) (by omega))
      have b3 := (HB.out.cell (World.block_lt_of_cell? w _ (HC.out (4 * k + 3) (by omega)))).trans (HC.out (4 * k + 3) (by omega))
      rw [n_byte] at b0 b1 b2 b3
      generalize hy0 : by8 l (4 * k) = y0 at *
      generalize hy1 : by8 l (4 * k + 1) = y1 at *
      generalize hy2 : by8 l (4 * k + 2) = y2 at *
      generalize hy3 : by8 l (4 * k + 3) = y3 at *
      have f0 := blk_frozen BK.out k
      have hlen := first16_length l k
      have f1 : wr.cell? ⟨gb, k, none⟩ = some (.int .u32 0) := (blk_cell BK.out k).trans (by have h := cw_next (n := 64) (l := first16 l k) (by omega); rw [hlen] at h; exact h)
      have hset : (cw 64 (first16 l k)).setIfInBounds k (.int .u32 ((w4 l k).toNat : Int)) = cw 64 (first16 l (k + 1)) := by have h := cw_set (n := 64) (l := first16 l k) (w4 l k) (by omega); rw [hlen] at h; exact h
      have HS := Aside0.mk hset
      clear hset hlen
      have hw : Go.bits .or .u32 (Go.bits .or .u32 (Go.bits .or .u32 ((y0.toNat : Int) * 16777216 % 4294967296) ((y1.toNat : Int) * 65536 % 4294967296)) ((y2.toNat : Int) * 256 % 4294967296)) (y3.toNat : Int) = ((w4 l k).toNat : Int) := by
        have e0 : (y0.toNat : Int) * (16777216 : Int) % (4294967296 : Int) = ((y0 <<< 24).toNat : Int) := m_shl y0 24
        have e1 : (y1.toNat : Int) * (65536 : Int) % (4294967296 : Int) = ((y1 <<< 16).toNat : Int) := m_shl y1 16
        have e2 : (y2.toNat : Int) * (256 : Int) % (4294967296 : Int) = ((y2 <<< 8).toNat : Int) := m_shl y2 8
        rw [e0, e1, e2, n_or, n_or, n_or, w4, hy0, hy1, hy2, hy3]
      have HW := Aside0.mk hw
      clear hw hy0 hy1 hy2 hy3
      have hq := hk
      clear hk
      go_wp2
      go_region
      all_goals go_wp2
      all_goals go_roundw
      case rel => exact ⟨k + 1, by omega, by go_num, ⟨by (with_reducible repeat (first | refine blk_drewN ?_ _ | refine blk_drew ?_ | refine blk_alloc ?_ _)); refine blk_put (cs := cw 64 (first16 l k)) ?_ k _ (by rw [HW.out]; exact HS.out); (with_reducible repeat (first | refine blk_drewN ?_ _ | refine blk_drew ?_ | refine blk_alloc ?_ _)); exact BK.out⟩, ⟨by repeat (first | (with_reducible first | exact HB.out | apply below_alloc | apply pw_below_drewN | apply below_drew1 | refine below_set ?_ GE.out) | exact HB.out)⟩⟩
      case measure => simp [intOf]; omega
    · obtain rfl : k = 16 := by omega
      have d1 : decide (((16 : Nat) : Int) < 16) = false := by decide
      go_wp2
      go_loopw [4] (fun u4 w' => ∃ n : Nat, n ≤ 48 ∧ u4 = .int .i64 ((16 + n : Nat) : Int) ∧ Aside0 (w'.heap[gb]? = some (.cells (cw 64 (expand (first16 l 16) n)) 105 (0, 0))) ∧ Aside0 (Below w.heap.size w w')) (fun u4 _ => 64 - (intOf u4).toNat)
      case atStart => exact ⟨0, by omega, rfl, BK, HB⟩
      case round =>
        clear BK HB d1
        obtain ⟨n, hn, rfl, BK, HB⟩ := hrel
        obtain ⟨i, hi⟩ : ∃ i, 16 + n = i := ⟨_, rfl⟩
        rw [hi]
        by_cases h48 : n < 48
        · have d1 : decide ((i : Int) < 64) = true := decide_eq_true (by omega)
          have hL : (expand (first16 l 16) n).length = i := by rw [expand_length, first16_length]; omega
          have hE : expand (first16 l 16) (n + 1) = expand (first16 l 16) n ++ [nextW (expand (first16 l 16) n) i] := by rw [expand, first16_length, hi]
          generalize expand (first16 l 16) n = L at *
          obtain ⟨i2, hi2⟩ : ∃ j, j = i - 2 := ⟨_, rfl⟩
          obtain ⟨i7, hi7⟩ : ∃ j, j = i - 7 := ⟨_, rfl⟩
          obtain ⟨i15, hi15⟩ : ∃ j, j = i - 15 := ⟨_, rfl⟩
          obtain ⟨i16, hi16⟩ : ∃ j, j = i - 16 := ⟨_, rfl⟩
          have x2 : wrap64 ((i : Int) - 2) = (i2 : Int) := by unfold wrap64; omega
          have x7 : wrap64 ((i : Int) - 7) = (i7 : Int) := by unfold wrap64; omega
          have x15 : wrap64 ((i : Int) - 15) = (i15 : Int) := by unfold wrap64; omega
          have x16 : wrap64 ((i : Int) - 16) = (i16 : Int) := by unfold wrap64; omega
          have q2 : (i : Int) - 2 = (i2 : Int) := by omega
          have q7 : (i : Int) - 7 = (i7 : Int) := by omega
          have q15 : (i : Int) - 15 = (i15 : Int) := by omega
          have q16 : (i : Int) - 16 = (i16 : Int) := by omega
          have b2 := blk_at BK.out (j := i2) (by omega)
          have b7 := blk_at BK.out (j := i7) (by omega)
          have b15 := blk_at BK.out (j := i15) (by omega)
          have b16 := blk_at BK.out (j := i16) (by omega)
          have p2 : i2 < 64 := by omega
          have p7 : i7 < 64 := by omega
          have p15 : i15 < 64 := by omega
          have p16 : i16 < 64 := by omega
          have p0 : i < 64 := by omega
          have f0 := blk_frozen BK.out i
          have f1 : wr.cell? ⟨gb, i, none⟩ = some (.int .u32 0) := (blk_cell BK.out i).trans (by have h := cw_next (n := 64) (l := L) (by omega); rw [hL] at h; exact h)
          have hN : nextW L i = wd L i16 + sig0 (wd L i15) + wd L i7 + sig1 (wd L i2) := by unfold nextW; rw [← hi2, ← hi7, ← hi15, ← hi16]
          generalize wd L i2 = y at *
          generalize wd L i7 = b at *
          generalize wd L i15 = x at *
          generalize wd L i16 = a at *
          have hset : (cw 64 L).setIfInBounds i (.int .u32 ((nextW L i).toNat : Int)) = cw 64 (expand (first16 l 16) (n + 1)) := by have h := cw_set (n := 64) (l := L) (nextW L i) (by omega); rw [hL] at h; rw [hE]; exact h
          have hw : ((a.toNat : Int) + Go.bits .xor .u32 (Go.bits .xor .u32 ((rr x 7).toNat : Int) ((rr x 18).toNat : Int)) ((x.toNat : Int) / 8) + (b.toNat : Int) + Go.bits .xor .u32 (Go.bits .xor .u32 ((rr y 17).toNat : Int) ((rr y 19).toNat : Int)) ((y.toNat : Int) / 1024)) % 4294967296 = ((nextW L i).toNat : Int) := by
            have e0 : (x.toNat : Int) / (8 : Int) = ((x >>> 3).toNat : Int) := n_shr x 3
            have e1 : (y.toNat : Int) / (1024 : Int) = ((y >>> 10).toNat : Int) := n_shr y 10
            rw [e0, e1, n_xor, n_xor, n_xor, n_xor, ← Int.emod_add_emod, ← Int.emod_add_emod ((a.toNat : Int) + _), m_add, m_add, m_add, hN]
            rfl
          have HW := Aside0.mk hw
          have HS := Aside0.mk hset
          have HI := Aside0.mk (show 16 + (n + 1) = i + 1 by omega)
          have HN := Aside0.mk (show n + 1 ≤ 48 by omega)
          clear hw hset hE hN hi2 hi7 hi15 hi16 hi hL h48 hn
          go_wp2
          go_region
          all_goals go_wp2_with (first | (go_at_call 79; (with_reducible first | refine (turn7 x _).mono ?_ | refine (turn18 x _).mono ?_ | refine (turn17 y _).mono ?_ | refine (turn19 y _).mono ?_); rintro e w_ ⟨rfl, rfl⟩))
          all_goals go_region
          all_goals go_wp2
          refine ⟨?_, by simp [intOf]; omega⟩
          repeat apply Exists.intro
          refine ⟨?rel, rfl⟩
          exact ⟨n + 1, HN.out, by rw [HI.out]; go_num, ⟨by (with_reducible repeat (first | refine blk_drewN ?_ _ | refine blk_drew ?_ | refine blk_alloc ?_ _)); refine blk_put (cs := cw 64 L) ?_ i _ (by rw [HW.out]; exact HS.out); (with_reducible repeat (first | refine blk_drewN ?_ _ | refine blk_drew ?_ | refine blk_alloc ?_ _)); exact BK.out⟩, ⟨by repeat (first | (with_reducible first | exact HB.out | apply below_alloc | apply pw_below_drewN | apply below_drew1 | refine below_set ?_ GE.out) | exact HB.out)⟩⟩
        · obtain rfl : n = 48 := by omega
          obtain rfl : i = 64 := by omega
          have d1 : decide (((64 : Nat) : Int) < 64) = false := by decide
          have hsz : (Tryd.prog.info? 105).map (·.size) = some (cw 64 (spread l)).size := by rw [cw_size (by rw [spread_length]; omega)]; kernel_rfl
          replace BK : Aside0 (wr.heap[gb]? = some (.cells (cw 64 (spread l)) 105 (0, 0))) := BK
          have HZ := Aside0.mk hsz
          clear hsz hi hn h48
          go_wp2_with (first
            | ((with_reducible refine gate_load (t := 105) (p := 2) rfl ?_); refine wpList_load_row rfl 105 (Operand.tmp 2) rfl gb rfl 105 (cw 64 (spread l)) (0, 0) _ BK.out Tryd.underlying105 rfl HZ.out ?_; (try simp only [Act.put, List.setIfInBounds_toArray, List.set_cons_zero, List.set_cons_succ]))
            | ((with_reducible refine gate_store (t := 105) (p := 2) rfl ?_); refine store_all rfl 105 (.tmp 2) _ rfl gb _ rfl rfl 105 _ BK.out HZ.out rfl (cw_one _ _) ?_; intro ws_ hrow_ hgr_ hbl_; have q_ := Aside0.mk (hbl_ w w.heap.size GE.out HB.out); clear HB; have HB := q_; clear q_; clear BK; have BK := Aside0.mk hrow_; clear hrow_ hgr_ hbl_; (try simp only [Act.put, List.setIfInBounds_toArray, List.set_cons_zero, List.set_cons_succ])))
          refine bodyPost_ret (v := .agg (cw 64 (spread l))) ?_ rfl ⟨rfl, HB.out⟩
          exact results_cell_row rfl _ _ gb 105 _ (0, 0) _ rfl BK.out Tryd.underlying105 rfl HZ.out
end Go.Proofs.YtfihbohdhcidbaaDoor.Sha
