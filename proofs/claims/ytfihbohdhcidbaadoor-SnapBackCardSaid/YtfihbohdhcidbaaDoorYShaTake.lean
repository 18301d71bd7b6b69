/- A block is taken in: walked. -/
import Derived.Test.YtfihbohdhcidbaaDoorYShaSpread
import Derived.Test.YtfihbohdhcidbaaDoorYBlk
namespace Go.Proofs.YtfihbohdhcidbaaDoor.Sha
open Go Go.RowKit Go.Proofs.YtfihbohdhcidbaaDoorW.PrintWords Go.Proofs.YtfihbohdhcidbaaDoorW.PrintLast Go.Proofs.YtfihbohdhcidbaaDoorW.PrintMore
set_option linter.unusedVariables false
set_option linter.unusedSimpArgs false

/-- What the walk asks of the table of constants. -/
def Consts (w : World) : Prop := ∀ i, i < 64 → w.cell? ⟨0, i, none⟩ = some (.int .u32 ((wd K i).toNat : Int))
theorem Consts.below {w w' : World} (h : Consts w) (hb : Below w.heap.size w w') : Consts w' := fun i hi => (hb.cell (World.block_lt_of_cell? w _ (h i hi))).trans (h i hi)

/-- A hash's cells: eight words, the row of what is left, how many bytes. -/
def hcells (s : S8) (rv : Value) (n : Int) : Array Value := #[.int .u32 (s.a.toNat : Int), .int .u32 (s.b.toNat : Int), .int .u32 (s.c.toNat : Int), .int .u32 (s.d.toNat : Int), .int .u32 (s.e.toNat : Int), .int .u32 (s.f.toNat : Int), .int .u32 (s.g.toNat : Int), .int .u32 (s.h.toNat : Int), rv, .int .i64 n]
def mix (j : Nat) (s t : S8) : S8 := ⟨if 0 < j then s.a + t.a else s.a, if 1 < j then s.b + t.b else s.b, if 2 < j then s.c + t.c else s.c, if 3 < j then s.d + t.d else s.d, if 4 < j then s.e + t.e else s.e, if 5 < j then s.f + t.f else s.f, if 6 < j then s.g + t.g else s.g, if 7 < j then s.h + t.h else s.h⟩

def S8.at (s : S8) (j : Nat) : W32 := match j with | 0 => s.a | 1 => s.b | 2 => s.c | 3 => s.d | 4 => s.e | 5 => s.f | 6 => s.g | _ => s.h
def agg8 (s : S8) : Value := .agg #[.int .u32 (s.a.toNat : Int), .int .u32 (s.b.toNat : Int), .int .u32 (s.c.toNat : Int), .int .u32 (s.d.toNat : Int), .int .u32 (s.e.toNat : Int), .int .u32 (s.f.toNat : Int), .int .u32 (s.g.toNat : Int), .int .u32 (s.h.toNat : Int)]
theorem ix8_0 (t : S8) (W : World) : (Instr.index 90 (agg8 t) (.int .i64 0)).run Tryd.prog W = .ok (.int .u32 (t.a.toNat : Int)) W := by kernel_rfl
theorem ix8_1 (t : S8) (W : World) : (Instr.index 90 (agg8 t) (.int .i64 1)).run Tryd.prog W = .ok (.int .u32 (t.b.toNat : Int)) W := by kernel_rfl
theorem ix8_2 (t : S8) (W : World) : (Instr.index 90 (agg8 t) (.int .i64 2)).run Tryd.prog W = .ok (.int .u32 (t.c.toNat : Int)) W := by kernel_rfl
theorem ix8_3 (t : S8) (W : World) : (Instr.index 90 (agg8 t) (.int .i64 3)).run Tryd.prog W = .ok (.int .u32 (t.d.toNat : Int)) W := by kernel_rfl
theorem ix8_4 (t : S8) (W : World) : (Instr.index 90 (agg8 t) (.int .i64 4)).run Tryd.prog W = .ok (.int .u32 (t.e.toNat : Int)) W := by kernel_rfl
theorem ix8_5 (t : S8) (W : World) : (Instr.index 90 (agg8 t) (.int .i64 5)).run Tryd.prog W = .ok (.int .u32 (t.f.toNat : Int)) W := by kernel_rfl
theorem ix8_6 (t : S8) (W : World) : (Instr.index 90 (agg8 t) (.int .i64 6)).run Tryd.prog W = .ok (.int .u32 (t.g.toNat : Int)) W := by kernel_rfl
theorem ix8_7 (t : S8) (W : World) : (Instr.index 90 (agg8 t) (.int .i64 7)).run Tryd.prog W = .ok (.int .u32 (t.h.toNat : Int)) W := by kernel_rfl
theorem ix8 (t : S8) (j : Nat) (hj : j < 8) (W : World) : (Instr.index 90 (agg8 t) (.int .i64 (j : Int))).run Tryd.prog W = .ok (.int .u32 ((t.at j).toNat : Int)) W := by
  have h : j = 0 ∨ j = 1 ∨ j = 2 ∨ j = 3 ∨ j = 4 ∨ j = 5 ∨ j = 6 ∨ j = 7 := by omega
  rcases h with rfl | rfl | rfl | rfl | rfl | rfl | rfl | rfl
  · exact ix8_0 t W
  · exact ix8_1 t W
  · exact ix8_2 t W
  · exact ix8_3 t W
  · exact ix8_4 t W
  · exact ix8_5 t W
  · exact ix8_6 t W
  · exact ix8_7 t W
theorem hc_at (s t : S8) (rv : Value) (n : Int) (j : Nat) (hj : j < 8) : (hcells (mix j s t) rv n)[j]? = some (.int .u32 ((s.at j).toNat : Int)) := by
  have h : j = 0 ∨ j = 1 ∨ j = 2 ∨ j = 3 ∨ j = 4 ∨ j = 5 ∨ j = 6 ∨ j = 7 := by omega
  rcases h with rfl | rfl | rfl | rfl | rfl | rfl | rfl | rfl <;> rfl
theorem hc_set (s t : S8) (rv : Value) (n : Int) (j : Nat) (hj : j < 8) : (hcells (mix j s t) rv n).setIfInBounds j (.int .u32 ((s.at j + t.at j).toNat : Int)) = hcells (mix (j + 1) s t) rv n := by
  have h : j = 0 ∨ j = 1 ∨ j = 2 ∨ j = 3 ∨ j = 4 ∨ j = 5 ∨ j = 6 ∨ j = 7 := by omega
  rcases h with rfl | rfl | rfl | rfl | rfl | rfl | rfl | rfl <;> rfl
theorem sum5 (x y z u v : W32) : ((x.toNat : Int) + (y.toNat : Int) + (z.toNat : Int) + (u.toNat : Int) + (v.toNat : Int)) % 4294967296 = ((x + y + z + u + v).toNat : Int) := by
  simp only [BitVec.toNat_add]
  omega
theorem b_not (e : W32) : Go.bits .xor .u32 (if IntKind.u32.signed = true then -1 else IntKind.u32.max) (e.toNat : Int) = ((~~~ e).toNat : Int) := n_not e
set_option maxHeartbeats 4000000 in
set_option maxRecDepth 100000 in
theorem take_calls (B g gr o c : Nat) (s : S8) (rv : Value) (n : Int) (l : List UInt8) (w : World) (hK : Consts w) (hg : g ≠ 0) (hBg : B ≤ g) (hBw : B ≤ w.heap.size)
    (hb : w.heap[g]? = some (.cells (hcells s rv n) 93 (0, 0))) (hc : ∀ j, j < 64 → w.cell? ⟨gr, o + j, none⟩ = some (.int .u8 (((l.getD j 0).toNat : Nat) : Int))) :
    Calls Tryd.prog 67 #[.pointer (some ⟨g, 0, none⟩), .slice (some ⟨gr, o, none⟩) 64 c] w fun e w' => e = .returned (.tuple #[]) ∧ w'.heap[g]? = some (.cells (hcells (take s l) rv n) 93 (0, 0)) ∧ KeepBut w w' g none ∧ Below B w w' := by
  have HBG := Aside0.mk hBg
  have HBW := Aside0.mk hBw
  clear hBg hBw
  have HK := Aside0.mk hK
  have BH := Aside0.mk hb
  have HC := Aside0.mk hc
  clear hK hb hc
  have HB := Aside0.mk (Below.refl w.heap.size w)
  have hsp := fun w hc => spread_calls gr o c l w hc
  have hsz : (Tryd.prog.info? 105).map (·.size) = some (cw 64 (spread l)).size := by rw [cw_size (by rw [spread_length]; omega)]; kernel_rfl
  have hs0 : (cw 64 []).size = (cw 64 (spread l)).size := by rw [cw_size (n := 64) (l := []) (by decide), cw_size (by rw [spread_length]; omega)]
  have hlen := spread_length l
  have htake : take s l = s.add (rounds (spread l) s 64) := rfl
  rw [htake]
  clear htake
  generalize spread l = W at *
  have HSP := Aside0.mk hsp
  have HZ := Aside0.mk hsz
  have HZ0 := Aside0.mk hs0
  have HL := Aside0.mk hlen
  clear hsz hs0 hlen hsp
  go_enter Tryd.func67, Tryd.ntmps67
  go_wp2_with (first
    | (go_at_call 78; (with_reducible refine (HSP.out _ HC.out).mono ?_); rintro e w1 ⟨rfl, hb1⟩; have BH1 := Aside0.mk (blk_below BH.out hb1); have HB1 := Aside0.mk hb1; clear hb1 HB BH; have BH := BH1; have HB := HB1; clear BH1 HB1)
    | ((with_reducible refine gate_dst (N := 4) rfl ?_); refine box_event ?hg (N := 4) ?hd (cs := cw 64 []) (t := 105) ?hr ?_; (case hd => rfl); (case hg => rfl); (case hr => first | (go_simp; done) | (go_simp; rfl)); intro gb hg_ wb_ hbox hb_; have BH1 := Aside0.mk (blk_below BH.out hb_); have n0_ := Aside0.mk (below_step HB.out hb_); have n1_ := Aside0.mk hbox; have n3_ := Aside0.mk ((by rw [hg_]; exact (below_size HB.out) : w.heap.size ≤ gb)); have n4_ := Aside0.mk (show gb ≠ g by rw [hg_]; have := blk_lt BH.out; omega); clear HB BH; have HB := n0_; have BK := n1_; have GE := n3_; have NE := n4_; have BH := BH1; clear n0_ n1_ n3_ n4_ BH1; clear hb_ hbox hg_)
    | ((with_reducible refine gate_store (t := 105) (p := 4) rfl ?_); refine store_all rfl 105 (.tmp 4) _ rfl gb _ rfl rfl 105 _ BK.out HZ.out HZ0.out (cw_one _ _) ?_; intro ws_ hrow_ hgr_ hbl_; have BH1 := Aside0.mk (blk_grown BH.out hgr_ (fun e_ => NE.out (Option.some.inj e_).symm)); have q_ := Aside0.mk (hbl_ w w.heap.size GE.out HB.out); clear HB BK BH; have HB := q_; have BK := Aside0.mk hrow_; have BH := BH1; clear q_ BH1 hrow_ hgr_ hbl_; (try simp only [Act.put, List.setIfInBounds_toArray, List.set_cons_zero, List.set_cons_succ])))
  obtain ⟨hc0, hc1, hc2, hc3, hc4, hc5, hc6, hc7, hc8, hc9, hf0, hf1, hf2, hf3, hf4, hf5, hf6, hf7, hf8, hf9⟩ := blk_all10 BH.out
  go_region
  all_goals go_wp2
  go_region
  all_goals go_wp2
  clear hc0 hc1 hc2 hc3 hc4 hc5 hc6 hc7 hc8 hc9 hf0 hf1 hf2 hf3 hf4 hf5 hf6 hf7 hf8 hf9
  have R0 : Aside0 (rounds W s 0 = ⟨s.a, s.b, s.c, s.d, s.e, s.f, s.g, s.h⟩) := ⟨rfl⟩
  have HB0 : Aside0 (Below w.heap.size w ws_.drew.drew) := ⟨by repeat (first | (with_reducible first | exact HB.out | apply pw_below_drewN | apply below_drew1) | exact HB.out)⟩
  clear HSP HC HZ HZ0
  go_loopw [5, 6, 7, 8, 9, 10, 11, 12, 62] (fun v5 v6 v7 v8 v9 v10 v11 v12 v62 w' => ∃ (k : Nat) (a b c d e f g0 h : W32), k ≤ 64 ∧ v62 = .int .i64 (k : Int) ∧ v5 = .int .u32 (a.toNat : Int) ∧ v6 = .int .u32 (b.toNat : Int) ∧ v7 = .int .u32 (c.toNat : Int) ∧ v8 = .int .u32 (d.toNat : Int) ∧ v9 = .int .u32 (e.toNat : Int) ∧ v10 = .int .u32 (f.toNat : Int) ∧ v11 = .int .u32 (g0.toNat : Int) ∧ v12 = .int .u32 (h.toNat : Int) ∧ Aside0 (rounds W s k = ⟨a, b, c, d, e, f, g0, h⟩) ∧ Aside0 (w'.heap[gb]? = some (.cells (cw 64 W) 105 (0, 0))) ∧ Aside0 (w'.heap[g]? = some (.cells (hcells s rv n) 93 (0, 0))) ∧ Aside0 (Below w.heap.size w w')) (fun _ _ _ _ _ _ _ _ v62 _ => 64 - (intOf v62).toNat)
  case atStart => exact ⟨0, s.a, s.b, s.c, s.d, s.e, s.f, s.g, s.h, by omega, rfl, rfl, rfl, rfl, rfl, rfl, rfl, rfl, rfl, R0, ⟨BK.out⟩, ⟨BH.out⟩, HB0⟩
  case round =>
    clear R0 BK BH HB HB0
    obtain ⟨k, a, b, c_, d, e, f, g_, h, hk, rfl, rfl, rfl, rfl, rfl, rfl, rfl, rfl, rfl, R0, BK, BH, HB⟩ := hrel
    by_cases h64 : k < 64
    · have d1 : decide ((k : Int) < 64) = true := decide_eq_true (by omega)
      have ck := (HK.out.below HB.out) k h64
      have cl := blk_at BK.out (j := k) (by rw [HL.out]; exact h64)
      have hR : rounds W s (k + 1) = round (wd K k) (wd W k) ⟨a, b, c_, d, e, f, g_, h⟩ := by rw [rounds, R0.out]
      generalize wd K k = kk at *
      generalize wd W k = ww at *
      have HR := Aside0.mk hR
      have HN := Aside0.mk (show k + 1 ≤ 64 by omega)
      clear hR hk R0
      go_wp2_with (first | (go_at_call 79; (with_reducible first | refine (turn6 e _).mono ?_ | refine (turn11 e _).mono ?_ | refine (turn25 e _).mono ?_ | refine (turn2 a _).mono ?_ | refine (turn13 a _).mono ?_ | refine (turn22 a _).mono ?_); rintro ee_ w_ ⟨rfl, rfl⟩))
      go_region
      all_goals go_wp2_with (first | (go_at_call 79; (with_reducible first | refine (turn6 e _).mono ?_ | refine (turn11 e _).mono ?_ | refine (turn25 e _).mono ?_ | refine (turn2 a _).mono ?_ | refine (turn13 a _).mono ?_ | refine (turn22 a _).mono ?_); rintro ee_ w_ ⟨rfl, rfl⟩))
      refine ⟨?_, by simp [intOf]; omega⟩
      have hT : ((h.toNat : Int) + Go.bits .xor .u32 (Go.bits .xor .u32 ((rr e 6).toNat : Int) ((rr e 11).toNat : Int)) ((rr e 25).toNat : Int) + Go.bits .xor .u32 (Go.bits .and .u32 (e.toNat : Int) (f.toNat : Int)) (Go.bits .and .u32 (Go.bits .xor .u32 (if IntKind.u32.signed = true then -1 else IntKind.u32.max) (e.toNat : Int)) (g_.toNat : Int)) + (kk.toNat : Int) + (ww.toNat : Int)) % 4294967296 = ((tOne kk ww ⟨a, b, c_, d, e, f, g_, h⟩).toNat : Int) := by
        rw [n_xor, n_xor, n_and, b_not, n_and, n_xor, sum5]; rfl
      have hU : (Go.bits .xor .u32 (Go.bits .xor .u32 ((rr a 2).toNat : Int) ((rr a 13).toNat : Int)) ((rr a 22).toNat : Int) + Go.bits .xor .u32 (Go.bits .xor .u32 (Go.bits .and .u32 (a.toNat : Int) (b.toNat : Int)) (Go.bits .and .u32 (a.toNat : Int) (c_.toNat : Int))) (Go.bits .and .u32 (b.toNat : Int) (c_.toNat : Int))) % 4294967296 = ((tTwo ⟨a, b, c_, d, e, f, g_, h⟩).toNat : Int) := by
        rw [n_xor, n_xor, n_and, n_and, n_and, n_xor, n_xor, m_add]; rfl
      rw [hT, hU, m_add, m_add]
      exact ⟨k + 1, tOne kk ww ⟨a, b, c_, d, e, f, g_, h⟩ + tTwo ⟨a, b, c_, d, e, f, g_, h⟩, a, b, c_, d + tOne kk ww ⟨a, b, c_, d, e, f, g_, h⟩, e, f, g_, HN.out, by go_num, rfl, rfl, rfl, rfl, rfl, rfl, rfl, rfl, HR, ⟨BK.out⟩, ⟨BH.out⟩, ⟨by repeat (first | (with_reducible first | exact HB.out | apply pw_below_drewN | apply below_drew1) | exact HB.out)⟩⟩
    · obtain rfl : k = 64 := by omega
      have d1 : decide (((64 : Nat) : Int) < 64) = false := by decide
      clear hk h64 HL
      have KB : Aside0 (KeepBut w wr g none) := ⟨KeepBut.of_below HB.out g none⟩
      have BB : Aside0 (Below B w wr) := ⟨HB.out.mono HBW.out⟩
      clear HB BK
      go_wp2
      go_loopw [136] (fun v136 w' => ∃ j : Nat, j ≤ 8 ∧ v136 = .int .i64 (j : Int) ∧ Aside0 (w'.heap[g]? = some (.cells (hcells (mix j s ⟨a, b, c_, d, e, f, g_, h⟩) rv n) 93 (0, 0))) ∧ Aside0 (KeepBut w w' g none) ∧ Aside0 (Below B w w')) (fun v136 _ => 8 - (intOf v136).toNat)
      case atStart => exact ⟨0, by omega, rfl, BH, KB, BB⟩
      case round =>
        clear BH KB BB d1
        obtain ⟨j, hj, rfl, BH, KB, BB⟩ := hrel
        by_cases h8 : j < 8
        · have d8 : decide ((j : Int) < 8) = true := decide_eq_true (by omega)
          have hix := ix8 ⟨a, b, c_, d, e, f, g_, h⟩ j h8
          have hcj : wr.cell? ⟨g, j, none⟩ = some (.int .u32 ((s.at j).toNat : Int)) := (blk_cell BH.out j).trans (hc_at s _ rv n j h8)
          have hfj := blk_frozen BH.out j
          have HSET := Aside0.mk (hc_set s ⟨a, b, c_, d, e, f, g_, h⟩ rv n j h8)
          have HN := Aside0.mk (show j + 1 ≤ 8 by omega)
          unfold agg8 at hix
          clear hj
          generalize s.at j = xs_ at *
          generalize (S8.at ⟨a, b, c_, d, e, f, g_, h⟩ j) = ys_ at *
          go_wp2
          go_region
          all_goals go_wp2
          refine ⟨?_, by simp [intOf]; omega⟩
          first | (refine ⟨j + 1, HN.out, by go_num, ⟨?_⟩, ⟨?_⟩, ⟨?_⟩⟩) | ((repeat apply Exists.intro); refine ⟨⟨j + 1, HN.out, by go_num, ⟨?_⟩, ⟨?_⟩, ⟨?_⟩⟩, rfl⟩)
          · (with_reducible repeat (first | refine blk_drewN ?_ _ | refine blk_drew ?_ | refine blk_alloc ?_ _)); refine blk_put (cs := hcells (mix j s ⟨a, b, c_, d, e, f, g_, h⟩) rv n) ?_ j _ (by rw [m_add]; exact HSET.out); (with_reducible repeat (first | refine blk_drewN ?_ _ | refine blk_drew ?_ | refine blk_alloc ?_ _)); exact BH.out
          · exact (KeepBut.set_ KB.out j _ : KeepBut w (wr.setCell ⟨g, j, none⟩ _) g none)
          · repeat (first | exact BB.out | refine Below.drew ?_ | refine Below.setCell ?_ HBG.out _)
        · obtain rfl : j = 8 := by omega
          have d8 : decide (((8 : Nat) : Int) < 8) = false := by decide
          go_wp2
          go_end0
          exact ⟨rfl, by rw [R0.out]; exact BH.out, KB.out, BB.out⟩
end Go.Proofs.YtfihbohdhcidbaaDoor.Sha
