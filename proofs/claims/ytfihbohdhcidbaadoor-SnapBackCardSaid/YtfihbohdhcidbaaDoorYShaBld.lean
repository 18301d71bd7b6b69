/- A strings.Builder that the call has made: a byte is written, with the frame told block by block. -/
import Derived.Test.YtfihbohdhcidbaaDoorYShaBl
import Derived.Test.YtfihbohdhcidbaaDoorShelf
import Derived.Lib.UnsafeStr
namespace Go.Proofs.YtfihbohdhcidbaaDoor.Sha
open Go Go.RowKit Go.Proofs.YtfihbohdhcidbaaDoorW.PrintWords Go.Proofs.YtfihbohdhcidbaaDoorW.PrintLast Go.Proofs.YtfihbohdhcidbaaDoorW.PrintMore
set_option linter.unusedVariables false
set_option linter.unusedSimpArgs false

/-- Block b is a builder that holds l; p: its own address, once it was written. -/
def BldAt (B b : Nat) (p : Value) (v : Value) (l : List UInt8) (w : World) : Prop :=
  w.heap[b]? = some (.cells #[p, v] 68 (0, 0)) ∧ w.ownsRow B 5 1 v (bl l).length (nums .u8 (bl l)) ∧ v.ownBlock ≠ some b ∧ B ≤ b ∧ (p = .pointer none ∨ p = .pointer (some ⟨b, 0, none⟩))
theorem BldAt.new (w : World) : BldAt w.heap.size w.heap.size (.pointer none) (.slice none 0 0) [] (w.alloc (.cells #[.pointer none, .slice none 0 0] 68)) :=
  ⟨blk_new w _, ⟨rfl, .inl ⟨rfl, rfl⟩⟩, by simp [Value.ownBlock], Nat.le_refl _, .inl rfl⟩
theorem infoB : (Tryd.prog.info? 68).map (fun i => i.size) = some 2 := by kernel_rfl
set_option maxHeartbeats 1000000 in
set_option maxRecDepth 100000 in
theorem check_used (b : Nat) (w : World) (h0 : w.cell? ⟨b, 0, none⟩ = some (.pointer (some ⟨b, 0, none⟩))) :
    Calls Tryd.prog 72 #[.pointer (some ⟨b, 0, none⟩)] w fun e w' => e = .returned (.tuple #[]) ∧ w' = w := by
  obtain ⟨j, hj, _⟩ := Option.map_eq_some_iff.1 infoB
  go_enter Tryd.func72, Tryd.ntmps72
  go_wp2
  rw [Lib.run_neq_ptr_same w _ Tryd.underlying65 hj]
  go_wp2
  go_end0
  exact ⟨rfl, rfl⟩
set_option maxHeartbeats 1000000 in
set_option maxRecDepth 100000 in
theorem check_fresh (b : Nat) (w : World) (h0 : w.cell? ⟨b, 0, none⟩ = some (.pointer none)) (hsh : w.shape? b = some (68, 2)) (hfz : w.frozen? ⟨b, 0, none⟩ = false) :
    Calls Tryd.prog 72 #[.pointer (some ⟨b, 0, none⟩)] w fun e w' => e = .returned (.tuple #[]) ∧ w' = w.setCell ⟨b, 0, none⟩ (.pointer (some ⟨b, 0, none⟩)) := by
  obtain ⟨j, hj, hjs⟩ := Option.map_eq_some_iff.1 infoB
  go_enter Tryd.func72, Tryd.ntmps72
  go_wp2
  rw [Lib.run_to_unsafe w ⟨b, 0, none⟩ Tryd.underlying65 Tryd.underlying108 hj (by rw [hjs]; decide) hsh (Nat.zero_lt_succ 1)]
  simp only [Result.andThen]
  rw [Oper.upon_value]
  go_wp2
  rw [run_callFunc_extern Tryd.func80 (by kernel_rfl) (by kernel_rfl) (by kernel_rfl) (e := Extern.AbiNoEscape.same) (by kernel_rfl)]
  rw [Lib.run_noEscape]
  simp only [Result.andThen]
  rw [Oper.upon_value]
  go_wp2
  rw [Lib.run_from_unsafe w ⟨b, 0, none⟩ Tryd.underlying108 Tryd.underlying65 hj hsh (by kernel_rfl)]
  simp only [Result.andThen]
  rw [Oper.upon_value]
  go_wp2
  go_end0
  exact ⟨rfl, rfl⟩
theorem check_calls (B b : Nat) (p v : Value) (l : List UInt8) (w : World) (h : BldAt B b p v l w) :
    Calls Tryd.prog 72 #[.pointer (some ⟨b, 0, none⟩)] w fun e w' => e = .returned (.tuple #[]) ∧ BldAt B b (.pointer (some ⟨b, 0, none⟩)) v l w' ∧ Below B w w' ∧ KeepBut w w' b none := by
  obtain ⟨hb, ho, hne, hB, rfl | rfl⟩ := h
  · refine (check_fresh b w ((blk_cell hb 0).trans rfl) (by simp [World.shape?, hb]) (blk_frozen hb 0)).mono ?_
    rintro e w' ⟨rfl, rfl⟩
    exact ⟨rfl, ⟨blk_put (cs := #[.pointer none, v]) hb 0 _ rfl, own_move ho (fun k hk => Below.heap_setCell w ⟨b, 0, none⟩ _ k (fun e => hne (by rw [hk, e]))), hne, hB, .inr rfl⟩, (Below.refl B w).setCell hB _, keep_set (KeepBut.refl w b none) 0 _⟩
  · refine (check_used b w ((blk_cell hb 0).trans rfl)).mono ?_
    rintro e w' ⟨rfl, rfl⟩
    exact ⟨rfl, ⟨hb, ho, hne, hB, .inr rfl⟩, Below.refl _ _, KeepBut.refl _ _ _⟩
set_option maxHeartbeats 1000000 in
set_option maxRecDepth 100000 in
theorem wb_calls (B b : Nat) (p v : Value) (l : List UInt8) (c : UInt8) (w : World) (h : BldAt B b p v l w) (hBw : B ≤ w.heap.size) (hlen : l.length + 1 ≤ 140737488355328) :
    Calls Tryd.prog 65 #[.pointer (some ⟨b, 0, none⟩), .int .u8 ((c.toNat : Nat) : Int)] w fun e w' => e = .returned .nilIface ∧ (∃ v', BldAt B b (.pointer (some ⟨b, 0, none⟩)) v' (l ++ [c]) w' ∧ (v'.ownBlock = v.ownBlock ∨ ∃ k, v'.ownBlock = some k ∧ w.heap.size ≤ k)) ∧ Below B w w' ∧ KeepBut w w' b v.ownBlock := by
  have H0 := Aside0.mk h
  have HBW := Aside0.mk hBw
  have HLN := Aside0.mk (show ((bl l).length + 1) * 1 ≤ 140737488355328 by rw [bl_length]; omega)
  have HAPP := Aside0.mk (show bl l ++ [((c.toNat : Nat) : Int)] = bl (l ++ [c]) by rw [bl_append]; rfl)
  clear h hBw hlen
  go_enter Tryd.func65, Tryd.ntmps65
  go_wp2_with (first
    | (go_at_call 72; (with_reducible refine (check_calls B b p v l _ H0.out).mono ?_); rintro e w1 ⟨rfl, h1, hb1, hk1⟩; have H1 := Aside0.mk h1; have HB1 := Aside0.mk hb1; have HK1 := Aside0.mk hk1; clear h1 hb1 hk1; obtain ⟨hc0, hc1, hf0, hf1⟩ := blk_all2 H1.out.1; clear hc0 hf0)
    | ((with_reducible refine gate_dst (N := 14) rfl ?_); refine print_append_num (w0 := w) B rfl _ _ 66 5 .u8 1 rfl Tryd.underlying66 info8 (by decide) v (bl l) _ rfl rfl H1.out.2.1 HB1.out (Nat.le_trans HBW.out HB1.out.size) HLN.out ?_; intro v2 w2 hown hb2 hgr hat; rw [HAPP.out] at hown; obtain ⟨A2, c2, rfl, hcc2⟩ := own_shape hown; have HO2 := Aside0.mk hown; have HB2 := Aside0.mk hb2; have HBK := Aside0.mk (blk_grown H1.out.1 hgr (fun e => H1.out.2.2.1 e.symm)); have HK2 := Aside0.mk (KeepBut.trans (⟨HK1.out.1, fun i hi h1 _ => HK1.out.2 i hi h1 (by simp)⟩ : KeepBut w w1 b v.ownBlock) (KeepBut.of_grown hgr b) (.inl rfl)); have HAT := Aside0.mk (show (Value.slice A2 (bl (l ++ [c])).length c2).ownBlock = v.ownBlock ∨ ∃ k, (Value.slice A2 (bl (l ++ [c])).length c2).ownBlock = some k ∧ w.heap.size ≤ k from hat.imp id (fun ⟨k, e, hk⟩ => ⟨k, e, Nat.le_trans HK1.out.1 hk⟩)); clear hown hb2 hgr hat hcc2 hc1 hf1; obtain ⟨hc0, hc1, hf0, hf1⟩ := blk_all2 HBK.out; clear hc0 hf0))
  have hne : (Value.slice A2 (bl (l ++ [c])).length c2).ownBlock ≠ some b := by
    intro e
    obtain ⟨cells, hcc⟩ := own_typed HO2.out b e
    rw [HBK.out] at hcc
    simp at hcc
  go_ret
  refine ⟨rfl, ⟨_, ⟨blk_put (cs := #[.pointer (some ⟨b, 0, none⟩), v]) HBK.out 1 _ rfl, own_move HO2.out (fun k hk => Below.heap_setCell _ ⟨b, 1, none⟩ _ k (fun e => hne (by rw [hk, e]))), hne, H1.out.2.2.2.1, .inr rfl⟩, HAT.out⟩, HB2.out.setCell H1.out.2.2.2.1 _, keep_set HK2.out 1 _⟩
theorem str_calls (B b : Nat) (p v : Value) (l : List UInt8) (w : World) (h : BldAt B b p v l w) (hBw : B ≤ w.heap.size) :
    Calls Tryd.prog 50 #[.pointer (some ⟨b, 0, none⟩)] w fun e w' => e = .returned (.string ⟨l.toArray⟩) ∧ Below B w w' := by
  obtain ⟨hb, ho, hne, hB, hp⟩ := h
  have e : nums .u8 (bl l) = Lib.byteCells l := by simp [nums, bl, Lib.byteCells]
  have e2 : (bl l).length = (Lib.byteCells l).length := by rw [bl_length, Lib.byteCells_length]
  rw [e, e2] at ho
  refine Tryd.Builder_String_any B b l w ?_ hBw
  rcases hp with rfl | rfl
  · exact .inl ⟨hB, v, hb, ho, hne⟩
  · exact .inr ⟨hB, v, hb, ho, hne⟩
end Go.Proofs.YtfihbohdhcidbaaDoor.Sha
