/- The document takes a block in: walked. -/
import Derived.Test.YtdfhffhnioamhaaDoorYShaRefX
namespace Go.Proofs.YtdfhffhnioamhaaDoor.Sha
open Go Go.RowKit Go.Proofs.YtdfhffhnioamhaaDoorW.PrintWords Go.Proofs.YtdfhffhnioamhaaDoorW.PrintLast Go.Proofs.YtdfhffhnioamhaaDoorW.PrintMore
set_option linter.unusedVariables false
set_option linter.unusedSimpArgs false

def cells8 (s : S8) : Array Value := #[.int .u32 (s.a.toNat : Int), .int .u32 (s.b.toNat : Int), .int .u32 (s.c.toNat : Int), .int .u32 (s.d.toNat : Int), .int .u32 (s.e.toNat : Int), .int .u32 (s.f.toNat : Int), .int .u32 (s.g.toNat : Int), .int .u32 (s.h.toNat : Int)]
def zero8 : S8 := ⟨0, 0, 0, 0, 0, 0, 0, 0⟩
theorem cells8_one (s : S8) : (cells8 s).all (·.oneCell') = true := by simp [cells8, Value.oneCell']
theorem c8_at (s : S8) (j : Nat) (hj : j < 8) : (cells8 s)[j]? = some (.int .u32 ((s.at j).toNat : Int)) := by
  have h : j = 0 ∨ j = 1 ∨ j = 2 ∨ j = 3 ∨ j = 4 ∨ j = 5 ∨ j = 6 ∨ j = 7 := by omega
  rcases h with rfl | rfl | rfl | rfl | rfl | rfl | rfl | rfl <;> rfl
theorem m8_at (s t : S8) (j : Nat) (hj : j < 8) : (cells8 (mix j s t))[j]? = some (.int .u32 ((s.at j).toNat : Int)) := by
  have h : j = 0 ∨ j = 1 ∨ j = 2 ∨ j = 3 ∨ j = 4 ∨ j = 5 ∨ j = 6 ∨ j = 7 := by omega
  rcases h with rfl | rfl | rfl | rfl | rfl | rfl | rfl | rfl <;> rfl
theorem m8_set (s t : S8) (j : Nat) (hj : j < 8) : (cells8 (mix j s t)).setIfInBounds j (.int .u32 ((s.at j + t.at j).toNat : Int)) = cells8 (mix (j + 1) s t) := by
  have h : j = 0 ∨ j = 1 ∨ j = 2 ∨ j = 3 ∨ j = 4 ∨ j = 5 ∨ j = 6 ∨ j = 7 := by omega
  rcases h with rfl | rfl | rfl | rfl | rfl | rfl | rfl | rfl <;> rfl
theorem size8 (s : S8) : (Tryd.prog.info? 53).map (·.size) = some (cells8 s).size := by show _ = some 8; kernel_rfl
theorem c8_all {w : World} {g : Nat} {s : S8} (h : w.heap[g]? = some (.cells (cells8 s) 53 (0, 0))) :
    w.cell? ⟨g, 0, none⟩ = some (.int .u32 (s.a.toNat : Int)) ∧ w.cell? ⟨g, 1, none⟩ = some (.int .u32 (s.b.toNat : Int)) ∧ w.cell? ⟨g, 2, none⟩ = some (.int .u32 (s.c.toNat : Int)) ∧ w.cell? ⟨g, 3, none⟩ = some (.int .u32 (s.d.toNat : Int)) ∧ w.cell? ⟨g, 4, none⟩ = some (.int .u32 (s.e.toNat : Int)) ∧ w.cell? ⟨g, 5, none⟩ = some (.int .u32 (s.f.toNat : Int)) ∧ w.cell? ⟨g, 6, none⟩ = some (.int .u32 (s.g.toNat : Int)) ∧ w.cell? ⟨g, 7, none⟩ = some (.int .u32 (s.h.toNat : Int)) :=
  ⟨(blk_cell h 0).trans rfl, (blk_cell h 1).trans rfl, (blk_cell h 2).trans rfl, (blk_cell h 3).trans rfl, (blk_cell h 4).trans rfl, (blk_cell h 5).trans rfl, (blk_cell h 6).trans rfl, (blk_cell h 7).trans rfl⟩
theorem quiet_of2 {P : Program} {f : FuncId} {args : Array Value} {w : World} {a n : Nat} {v : Value}
    (h : Calls P f args (w.drewN (a + n)) fun e w' => e = .returned v ∧ ∃ m, w' = (w.drewN (a + n)).drewN m) : Calls P f args (w.drewN (a + n)) fun e w'' => e = .returned v ∧ ∃ m, w'' = w.drewN (a + m) :=
  h.mono fun _ _ ⟨he, m, hm⟩ => ⟨he, n + m, by rw [hm, World.drewN_drewN, Nat.add_assoc]⟩
/-- The five boxes: they lie apart. -/
structure Boxes (B g2 g4 g5 g6 g7 : Nat) : Prop where
  b2 : B ≤ g2
  h4 : g2 < g4
  h5 : g4 < g5
  h6 : g5 < g6
  h7 : g6 < g7
set_option maxHeartbeats 2000000 in
set_option maxRecDepth 100000 in
theorem rtake_calls (s : S8) (x : ByteArray) (hx : x.size = 64) (w : World) : Calls Tryd.prog 34 #[.agg (cells8 s), .string x] w fun e w' => e = .returned (.agg (cells8 (take s x.data.toList))) ∧ Below w.heap.size w w' := by
  have HX := Aside0.mk hx
  have HWD := Aside0.mk (fun w => rwords_calls x hx w)
  have htake : take s x.data.toList = s.add (rounds (spread x.data.toList) s 64) := rfl
  have hlen := spread_length x.data.toList
  rw [htake]
  clear htake
  generalize spread x.data.toList = W at *
  have HL := Aside0.mk hlen
  have HZK := Aside0.mk (size64 K (by decide))
  have HZK0 := Aside0.mk (show (cw 64 []).size = (cw 64 K).size by decide)
  have HZW := Aside0.mk (size64 W (by omega))
  have HZW0 := Aside0.mk (show (cw 64 []).size = (cw 64 W).size by rw [cw_size (n := 64) (l := []) (by decide), cw_size (by omega)])
  have HZ8 := Aside0.mk size8
  have HB := Aside0.mk (Below.refl w.heap.size w)
  clear hlen hx
  go_enter Tryd.func34, Tryd.ntmps34
  go_wp2_with (first
    | ((with_reducible refine gate_dst (N := 2) rfl ?_); refine box_event ?hg (N := 2) ?hd (cs := cells8 s) (t := 53) ?hr ?_; (case hd => rfl); (case hg => rfl); (case hr => first | (go_simp; done) | (go_simp; rfl)); intro g2 hg wb_ hbox hb; have n0_ := Aside0.mk (below_step HB.out hb); have n1_ := Aside0.mk hbox; have n3_ := Aside0.mk ((by rw [hg]; exact (below_size HB.out) : w.heap.size ≤ g2)); clear HB; have HB := n0_; have B2 := n1_; have G2 := n3_; clear n0_ n1_ n3_; clear hb hbox hg)
    | ((with_reducible refine gate_dst (N := 4) rfl ?_); refine box_event ?hg (N := 4) ?hd (cs := cells8 zero8) (t := 53) ?hr ?_; (case hd => rfl); (case hg => rfl); (case hr => first | (go_simp; done) | (go_simp; rfl)); intro g4 hg wb_ hbox hb; have n0_ := Aside0.mk (below_step HB.out hb); have n1_ := Aside0.mk hbox; have n2_ := Aside0.mk (blk_below B2.out hb); have n3_ := Aside0.mk (show g2 < g4 by rw [hg]; exact blk_lt B2.out); clear HB B2; have HB := n0_; have B4 := n1_; have B2 := n2_; have G4 := n3_; clear n0_ n1_ n2_ n3_; clear hb hbox hg)
    | (go_at_call 47; (with_reducible refine (HWD.out _).mono ?_); rintro e w1 ⟨rfl, hb⟩; have n0_ := Aside0.mk (below_step HB.out hb); have n2_ := Aside0.mk (blk_below B2.out hb); have n4_ := Aside0.mk (blk_below B4.out hb); clear HB B2 B4 hb; have HB := n0_; have B2 := n2_; have B4 := n4_; clear n0_ n2_ n4_)
    | ((with_reducible refine gate_dst (N := 5) rfl ?_); refine box_event ?hg (N := 5) ?hd (cs := cw 64 []) (t := 69) ?hr ?_; (case hd => rfl); (case hg => rfl); (case hr => first | (go_simp; done) | (go_simp; rfl)); intro g5 hg wb_ hbox hb; have n0_ := Aside0.mk (below_step HB.out hb); have n1_ := Aside0.mk hbox; have n2_ := Aside0.mk (blk_below B2.out hb); have n4_ := Aside0.mk (blk_below B4.out hb); have n3_ := Aside0.mk (show g4 < g5 by rw [hg]; exact blk_lt B4.out); clear HB B2 B4; have HB := n0_; have B5 := n1_; have B2 := n2_; have B4 := n4_; have G5 := n3_; clear n0_ n1_ n2_ n3_ n4_; clear hb hbox hg)
    | ((with_reducible refine gate_store (t := 69) (p := 5) rfl ?_); refine store_all rfl 69 (.tmp 5) _ rfl g5 (cw 64 W) rfl rfl 69 _ B5.out HZW.out HZW0.out (cw_one _ _) ?_; intro ws_ hrow_ hgr_ hbl_; have q_ := Aside0.mk (hbl_ w w.heap.size (by have := G2.out; have := G4.out; have := G5.out; omega) HB.out); have n2_ := Aside0.mk (blk_grown B2.out hgr_ (fun e_ => by have := Option.some.inj e_; have := G4.out; have := G5.out; omega)); have n4_ := Aside0.mk (blk_grown B4.out hgr_ (fun e_ => by have := Option.some.inj e_; have := G5.out; omega)); clear HB B5 B2 B4; have HB := q_; have B5 := Aside0.mk hrow_; have B2 := n2_; have B4 := n4_; clear q_ n2_ n4_ hrow_ hgr_ hbl_; (try simp only [Act.put, List.setIfInBounds_toArray, List.set_cons_zero, List.set_cons_succ]))
    | (go_at_call 42; (with_reducible refine (consts_calls _).mono ?_); rintro e w1 ⟨rfl, hb⟩; have n0_ := Aside0.mk (below_step HB.out hb); have n2_ := Aside0.mk (blk_below B2.out hb); have n4_ := Aside0.mk (blk_below B4.out hb); have n5_ := Aside0.mk (blk_below B5.out hb); clear HB B2 B4 B5 hb; have HB := n0_; have B2 := n2_; have B4 := n4_; have B5 := n5_; clear n0_ n2_ n4_ n5_)
    | ((with_reducible refine gate_dst (N := 6) rfl ?_); refine box_event ?hg (N := 6) ?hd (cs := cw 64 []) (t := 69) ?hr ?_; (case hd => rfl); (case hg => rfl); (case hr => first | (go_simp; done) | (go_simp; rfl)); intro g6 hg wb_ hbox hb; have n0_ := Aside0.mk (below_step HB.out hb); have n1_ := Aside0.mk hbox; have n2_ := Aside0.mk (blk_below B2.out hb); have n4_ := Aside0.mk (blk_below B4.out hb); have n5_ := Aside0.mk (blk_below B5.out hb); have n3_ := Aside0.mk (show g5 < g6 by rw [hg]; exact blk_lt B5.out); clear HB B2 B4 B5; have HB := n0_; have B6 := n1_; have B2 := n2_; have B4 := n4_; have B5 := n5_; have G6 := n3_; clear n0_ n1_ n2_ n3_ n4_ n5_; clear hb hbox hg)
    | ((with_reducible refine gate_store (t := 69) (p := 6) rfl ?_); refine store_all rfl 69 (.tmp 6) _ rfl g6 (cw 64 K) rfl rfl 69 _ B6.out HZK.out HZK0.out (cw_one _ _) ?_; intro ws_ hrow_ hgr_ hbl_; have q_ := Aside0.mk (hbl_ w w.heap.size (by have := G2.out; have := G4.out; have := G5.out; have := G6.out; omega) HB.out); have n2_ := Aside0.mk (blk_grown B2.out hgr_ (fun e_ => by have := Option.some.inj e_; have := G4.out; have := G5.out; have := G6.out; omega)); have n4_ := Aside0.mk (blk_grown B4.out hgr_ (fun e_ => by have := Option.some.inj e_; have := G5.out; have := G6.out; omega)); have n5_ := Aside0.mk (blk_grown B5.out hgr_ (fun e_ => by have := Option.some.inj e_; have := G6.out; omega)); clear HB B5 B2 B4 B6; have HB := q_; have B6 := Aside0.mk hrow_; have B2 := n2_; have B4 := n4_; have B5 := n5_; clear q_ n2_ n4_ n5_ hrow_ hgr_ hbl_; (try simp only [Act.put, List.setIfInBounds_toArray, List.set_cons_zero, List.set_cons_succ]))
    | ((with_reducible refine gate_load (t := 53) (p := 2) rfl ?_); refine wpList_load_row rfl 53 (Operand.tmp 2) rfl g2 rfl 53 (cells8 s) (0, 0) _ B2.out Tryd.underlying53 rfl (HZ8.out s) ?_; (try simp only [Act.put, List.setIfInBounds_toArray, List.set_cons_zero, List.set_cons_succ]))
    | ((with_reducible refine gate_dst (N := 7) rfl ?_); refine box_event ?hg (N := 7) ?hd (cs := cells8 zero8) (t := 53) ?hr ?_; (case hd => rfl); (case hg => rfl); (case hr => first | (go_simp; done) | (go_simp; rfl)); intro g7 hg wb_ hbox hb; have n0_ := Aside0.mk (below_step HB.out hb); have n1_ := Aside0.mk hbox; have n2_ := Aside0.mk (blk_below B2.out hb); have n4_ := Aside0.mk (blk_below B4.out hb); have n5_ := Aside0.mk (blk_below B5.out hb); have n6_ := Aside0.mk (blk_below B6.out hb); have n3_ := Aside0.mk (show g6 < g7 by rw [hg]; exact blk_lt B6.out); clear HB B2 B4 B5 B6; have HB := n0_; have B7 := n1_; have B2 := n2_; have B4 := n4_; have B5 := n5_; have B6 := n6_; have G7 := n3_; clear n0_ n1_ n2_ n3_ n4_ n5_ n6_; clear hb hbox hg)
    | ((with_reducible refine gate_store (t := 53) (p := 7) rfl ?_); refine store_all rfl 53 (.tmp 7) _ rfl g7 (cells8 s) rfl rfl 53 _ B7.out (HZ8.out s) rfl (cells8_one _) ?_; intro ws_ hrow_ hgr_ hbl_; have G_ : Aside0 (Boxes w.heap.size g2 g4 g5 g6 g7) := ⟨⟨G2.out, G4.out, G5.out, G6.out, G7.out⟩⟩; have q_ := Aside0.mk (hbl_ w w.heap.size (by have := G_.out.b2; have := G_.out.h4; have := G_.out.h5; have := G_.out.h6; have := G_.out.h7; omega) HB.out); have n2_ := Aside0.mk (blk_grown B2.out hgr_ (fun e_ => by have := Option.some.inj e_; have := G_.out.h4; have := G_.out.h5; have := G_.out.h6; have := G_.out.h7; omega)); have n4_ := Aside0.mk (blk_grown B4.out hgr_ (fun e_ => by have := Option.some.inj e_; have := G_.out.h5; have := G_.out.h6; have := G_.out.h7; omega)); have n5_ := Aside0.mk (blk_grown B5.out hgr_ (fun e_ => by have := Option.some.inj e_; have := G_.out.h6; have := G_.out.h7; omega)); have n6_ := Aside0.mk (blk_grown B6.out hgr_ (fun e_ => by have := Option.some.inj e_; have := G_.out.h7; omega)); clear HB B5 B2 B4 B6 B7; have HB := q_; have B7 := Aside0.mk hrow_; have B2 := n2_; have B4 := n4_; have B5 := n5_; have B6 := n6_; clear q_ n2_ n4_ n5_ n6_ hrow_ hgr_ hbl_; (try simp only [Act.put, List.setIfInBounds_toArray, List.set_cons_zero, List.set_cons_succ])))
  have NE := G_
  clear G_
  clear G2 G4 G5 G6 G7 HWD HZK HZK0 HZW HZW0
  go_loopw [8] (fun u8 w' => ∃ k : Nat, k ≤ 64 ∧ u8 = .int .i64 (k : Int) ∧ Aside0 (w'.heap[g7]? = some (.cells (cells8 (rounds W s k)) 53 (0, 0))) ∧ Aside0 (w'.heap[g2]? = some (.cells (cells8 s) 53 (0, 0))) ∧ Aside0 (w'.heap[g4]? = some (.cells (cells8 zero8) 53 (0, 0))) ∧ Aside0 (w'.heap[g5]? = some (.cells (cw 64 W) 69 (0, 0))) ∧ Aside0 (w'.heap[g6]? = some (.cells (cw 64 K) 69 (0, 0))) ∧ Aside0 (Below w.heap.size w w')) (fun u8 _ => 64 - (intOf u8).toNat)
  case atStart => exact ⟨0, by omega, rfl, B7, B2, B4, B5, B6, HB⟩
  case round =>
    clear B7 B2 B4 B5 B6 HB
    obtain ⟨k, hk, rfl, B7, B2, B4, B5, B6, HB⟩ := hrel
    by_cases h64 : k < 64
    · have d1 : decide ((k : Int) < 64) = true := decide_eq_true (by omega)
      have hR : rounds W s (k + 1) = round (wd K k) (wd W k) (rounds W s k) := rfl
      obtain ⟨⟨a, b, c, d, e, f, g, v8⟩, hV⟩ : ∃ V, rounds W s k = V := ⟨_, rfl⟩
      rw [hV] at hR B7
      obtain ⟨c0, c1, c2, c3, c4, c5, c6, c7⟩ := c8_all B7.out
      have ck := blk_at B6.out (j := k) (by rw [K_length]; exact h64)
      have cl := blk_at B5.out (j := k) (by rw [HL.out]; exact h64)
      generalize wd K k = kk at *
      generalize wd W k = ww at *
      have HR := Aside0.mk hR
      have HN := Aside0.mk (show k + 1 ≤ 64 by omega)
      have z0 : (0 : Int) ≤ (k : Int) := by omega
      have z1 : (k : Int) < 64 := by omega
      clear hR hk hV
      go_wp2_with fail
      go_quiet (fail)
      go_upto_region 8 with fail
      go_quiet (first | (go_at_call 48; (with_reducible exact quiet_of2 (rturn6 e _))) | (go_at_call 48; (with_reducible exact quiet_of2 (rturn11 e _))) | (go_at_call 48; (with_reducible exact quiet_of2 (rturn25 e _))))
      go_wp2_with (first
        | (go_at_call 48; (with_reducible first | refine (rturn2 a _).mono ?_ | refine (rturn13 a _).mono ?_ | refine (rturn22 a _).mono ?_); rintro e_ w_ ⟨rfl, m_, rfl⟩)
        | ((with_reducible refine gate_store (t := 53) (p := 7) rfl ?_); refine store_all rfl 53 (.tmp 7) _ rfl g7 _ rfl rfl 53 _ B7.out (HZ8.out zero8) rfl (by simp [Value.oneCell']) ?_; intro ws_ hrow_ hgr_ hbl_; have HROW := Aside0.mk hrow_; have HGR := Aside0.mk hgr_; have HBL := Aside0.mk hbl_; clear hrow_ hgr_ hbl_ c0 c1 c2 c3 c4 c5 c6 c7; (try simp only [Act.put, List.setIfInBounds_toArray, List.set_cons_zero, List.set_cons_succ])))
      have hT : ((v8.toNat : Int) + Go.bits .xor .u32 (Go.bits .xor .u32 ((rr e 6).toNat : Int) ((rr e 11).toNat : Int)) ((rr e 25).toNat : Int) + Go.bits .xor .u32 (Go.bits .and .u32 (e.toNat : Int) (f.toNat : Int)) (Go.bits .andNot .u32 (g.toNat : Int) (e.toNat : Int)) + (kk.toNat : Int) + (ww.toNat : Int)) % 4294967296 = ((tOne kk ww ⟨a, b, c, d, e, f, g, v8⟩).toNat : Int) := by
        rw [n_xor, n_xor, n_and, n_andNot, n_xor, sum5, BitVec.and_comm g (~~~ e)]; rfl
      have hU : (Go.bits .xor .u32 (Go.bits .xor .u32 ((rr a 2).toNat : Int) ((rr a 13).toNat : Int)) ((rr a 22).toNat : Int) + Go.bits .xor .u32 (Go.bits .xor .u32 (Go.bits .and .u32 (a.toNat : Int) (b.toNat : Int)) (Go.bits .and .u32 (a.toNat : Int) (c.toNat : Int))) (Go.bits .and .u32 (b.toNat : Int) (c.toNat : Int))) % 4294967296 = ((tTwo ⟨a, b, c, d, e, f, g, v8⟩).toNat : Int) := by
        rw [n_xor, n_xor, n_and, n_and, n_and, n_xor, n_xor, m_add]; rfl
      have hTU : (((v8.toNat : Int) + Go.bits .xor .u32 (Go.bits .xor .u32 ((rr e 6).toNat : Int) ((rr e 11).toNat : Int)) ((rr e 25).toNat : Int) + Go.bits .xor .u32 (Go.bits .and .u32 (e.toNat : Int) (f.toNat : Int)) (Go.bits .andNot .u32 (g.toNat : Int) (e.toNat : Int)) + (kk.toNat : Int) + (ww.toNat : Int)) + (Go.bits .xor .u32 (Go.bits .xor .u32 ((rr a 2).toNat : Int) ((rr a 13).toNat : Int)) ((rr a 22).toNat : Int) + Go.bits .xor .u32 (Go.bits .xor .u32 (Go.bits .and .u32 (a.toNat : Int) (b.toNat : Int)) (Go.bits .and .u32 (a.toNat : Int) (c.toNat : Int))) (Go.bits .and .u32 (b.toNat : Int) (c.toNat : Int)))) % 4294967296 = ((tOne kk ww ⟨a, b, c, d, e, f, g, v8⟩ + tTwo ⟨a, b, c, d, e, f, g, v8⟩).toNat : Int) := by rw [Int.add_emod, hT, hU, m_add]
      have hDT : ((d.toNat : Int) + ((v8.toNat : Int) + Go.bits .xor .u32 (Go.bits .xor .u32 ((rr e 6).toNat : Int) ((rr e 11).toNat : Int)) ((rr e 25).toNat : Int) + Go.bits .xor .u32 (Go.bits .and .u32 (e.toNat : Int) (f.toNat : Int)) (Go.bits .andNot .u32 (g.toNat : Int) (e.toNat : Int)) + (kk.toNat : Int) + (ww.toNat : Int))) % 4294967296 = ((d + tOne kk ww ⟨a, b, c, d, e, f, g, v8⟩).toNat : Int) := by rw [Int.add_emod, hT, n_u32, m_add]
      have hrow := HROW.out
      rw [hTU, hDT] at hrow
      have hrow2 : ws_.heap[g7]? = some (.cells (cells8 (rounds W s (k + 1))) 53 (0, 0)) := by rw [HR.out]; exact hrow
      refine ⟨?_, by simp [intOf]; have := HN.out; omega⟩
      exact ⟨k + 1, HN.out, by go_num, ⟨hrow2⟩, ⟨blk_grown (by exact B2.out) HGR.out (fun e_ => by have := Option.some.inj e_; have := NE.out.h4; have := NE.out.h5; have := NE.out.h6; have := NE.out.h7; omega)⟩, ⟨blk_grown (by exact B4.out) HGR.out (fun e_ => by have := Option.some.inj e_; have := NE.out.h5; have := NE.out.h6; have := NE.out.h7; omega)⟩, ⟨blk_grown (by exact B5.out) HGR.out (fun e_ => by have := Option.some.inj e_; have := NE.out.h6; have := NE.out.h7; omega)⟩, ⟨blk_grown (by exact B6.out) HGR.out (fun e_ => by have := Option.some.inj e_; have := NE.out.h7; omega)⟩, ⟨HBL.out w w.heap.size (by have := NE.out.b2; have := NE.out.h4; have := NE.out.h5; have := NE.out.h6; have := NE.out.h7; omega) (by repeat (first | exact HB.out | apply pw_below_drewN))⟩⟩
    · obtain rfl : k = 64 := by omega
      have d1 : decide (((64 : Nat) : Int) < 64) = false := by decide
      clear hk h64 HL
      obtain ⟨V, hV⟩ : ∃ V, rounds W s 64 = V := ⟨_, rfl⟩
      rw [hV] at B7
      have HV := Aside0.mk hV
      clear hV
      have B2' : Aside0 (wr.heap[g2]? = some (.cells (cells8 (mix 0 s V)) 53 (0, 0))) := B2
      clear B2 B5 B6
      go_wp2
      go_loopw [17] (fun u17 w' => ∃ j : Nat, j ≤ 8 ∧ u17 = .int .i64 (j : Int) ∧ Aside0 (w'.heap[g2]? = some (.cells (cells8 (mix j s V)) 53 (0, 0))) ∧ Aside0 (w'.heap[g4]? = some (.cells (cells8 zero8) 53 (0, 0))) ∧ Aside0 (w'.heap[g7]? = some (.cells (cells8 V) 53 (0, 0))) ∧ Aside0 (Below w.heap.size w w')) (fun u17 _ => 8 - (intOf u17).toNat)
      case atStart => exact ⟨0, by omega, rfl, B2', B4, B7, HB⟩
      case round =>
        clear B2' B4 B7 HB d1
        obtain ⟨j, hj, rfl, B2, B4, B7, HB⟩ := hrel
        by_cases h8 : j < 8
        · have d8 : decide ((j : Int) < 8) = true := decide_eq_true (by omega)
          have hcj : wr.cell? ⟨g2, j, none⟩ = some (.int .u32 ((s.at j).toNat : Int)) := (blk_cell B2.out j).trans (m8_at s V j h8)
          have hvj : wr.cell? ⟨g7, j, none⟩ = some (.int .u32 ((V.at j).toNat : Int)) := (blk_cell B7.out j).trans (c8_at V j h8)
          have hfj := blk_frozen B2.out j
          have HSET := Aside0.mk (m8_set s V j h8)
          have HN := Aside0.mk (show j + 1 ≤ 8 by omega)
          have z0 : (0 : Int) ≤ (j : Int) := by omega
          have z1 : (j : Int) < 8 := by omega
          clear hj
          generalize s.at j = xs_ at *
          generalize V.at j = ys_ at *
          go_wp2
          go_region
          all_goals go_wp2
          refine ⟨?_, by simp [intOf]; omega⟩
          refine ⟨j + 1, HN.out, by go_num, ⟨?_⟩, ⟨?_⟩, ⟨?_⟩, ⟨?_⟩⟩
          · (with_reducible repeat (first | refine blk_drewN ?_ _ | refine blk_drew ?_)); refine blk_put (cs := cells8 (mix j s V)) B2.out j _ (by rw [m_add]; exact HSET.out)
          · exact (Below.heap_setCell wr ⟨g2, j, none⟩ _ g4 (by have := NE.out.h4; show g4 ≠ g2; omega)).trans B4.out
          · exact (Below.heap_setCell wr ⟨g2, j, none⟩ _ g7 (by have := NE.out.h4; have := NE.out.h5; have := NE.out.h6; have := NE.out.h7; show g7 ≠ g2; omega)).trans B7.out
          · repeat (first | (with_reducible exact HB.out) | (with_reducible apply below_drew1) | (with_reducible apply pw_below_drewN) | refine below_set ?_ NE.out.b2)
        · obtain rfl : j = 8 := by omega
          have d8 : decide (((8 : Nat) : Int) < 8) = false := by decide
          have B2' : Aside0 (wr.heap[g2]? = some (.cells (cells8 (s.add V)) 53 (0, 0))) := B2
          clear B2 hj h8
          go_wp2_with (first
            | ((with_reducible refine gate_load (t := 53) (p := 2) rfl ?_); refine wpList_load_row rfl 53 (Operand.tmp 2) rfl g2 rfl 53 (cells8 (s.add V)) (0, 0) _ B2'.out Tryd.underlying53 rfl (HZ8.out _) ?_; (try simp only [Act.put, List.setIfInBounds_toArray, List.set_cons_zero, List.set_cons_succ]))
            | ((with_reducible refine gate_store (t := 53) (p := 4) rfl ?_); refine store_all rfl 53 (.tmp 4) _ rfl g4 (cells8 (s.add V)) rfl rfl 53 _ B4.out (HZ8.out _) rfl (cells8_one _) ?_; intro ws_ hrow_ hgr_ hbl_; have q_ := Aside0.mk (hbl_ w w.heap.size (by have := NE.out.b2; have := NE.out.h4; omega) HB.out); clear HB; have HB := q_; clear q_; clear B4; have B4 := Aside0.mk hrow_; clear hrow_ hgr_ hbl_; (try simp only [Act.put, List.setIfInBounds_toArray, List.set_cons_zero, List.set_cons_succ])))
          refine bodyPost_ret (v := .agg (cells8 (s.add V))) ?_ rfl ⟨by rw [HV.out], HB.out⟩
          exact results_cell_row rfl _ _ g4 53 _ (0, 0) _ rfl B4.out Tryd.underlying53 rfl (HZ8.out _)
end Go.Proofs.YtdfhffhnioamhaaDoor.Sha
