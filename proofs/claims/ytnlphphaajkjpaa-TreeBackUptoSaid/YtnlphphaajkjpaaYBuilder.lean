/- A strings.Builder that the call has made: a byte is written, with the frame told block by block. -/
import Derived.Test.YtnlphphaajkjpaaYShaBl
import Derived.Test.YtnlphphaajkjpaaShelf
import Derived.Lib.UnsafeStr
namespace Go.Proofs.Ytnlphphaajkjpaa.Sha
open Go Go.RowKit Go.Proofs.YtnlphphaajkjpaaW.PrintWords Go.Proofs.YtnlphphaajkjpaaW.PrintLast Go.Proofs.YtnlphphaajkjpaaW.PrintMore
set_option linter.unusedVariables false
set_option linter.unusedSimpArgs false

/-- Block b is a builder that holds l; p: its own address, once it was written. -/
def BldAt (B b : Nat) (p : Value) (v : Value) (l : List UInt8) (w : World) : Prop :=
  w.heap[b]? = some (.cells #[p, v] 61 (0, 0)) ∧ w.ownsRow B 5 1 v (bl l).length (nums .u8 (bl l)) ∧ v.ownBlock ≠ some b ∧ B ≤ b ∧ (p = .pointer none ∨ p = .pointer (some ⟨b, 0, none⟩))
theorem BldAt.new (w : World) : BldAt w.heap.size w.heap.size (.pointer none) (.slice none 0 0) [] (w.alloc (.cells #[.pointer none, .slice none 0 0] 61)) :=
  ⟨blk_new w _, ⟨rfl, .inl ⟨rfl, rfl⟩⟩, by simp [Value.ownBlock], Nat.le_refl _, .inl rfl⟩
theorem infoB : (Try.prog.info? 61).map (fun i => i.size) = some 2 := by kernel_rfl
set_option maxHeartbeats 1000000 in
set_option maxRecDepth 100000 in
theorem check_used (b : Nat) (w : World) (h0 : w.cell? ⟨b, 0, none⟩ = some (.pointer (some ⟨b, 0, none⟩))) :
    Calls Try.prog 52 #[.pointer (some ⟨b, 0, none⟩)] w fun e w' => e = .returned (.tuple #[]) ∧ w' = w := by
  obtain ⟨j, hj, _⟩ := Option.map_eq_some_iff.1 infoB
  go_enter Try.func52, Try.ntmps52
  go_wp2
  rw [Lib.run_neq_ptr_same w _ Try.underlying59 hj]
  go_wp2
  go_end0
  exact ⟨rfl, rfl⟩
set_option maxHeartbeats 1000000 in
set_option maxRecDepth 100000 in
theorem check_fresh (b : Nat) (w : World) (h0 : w.cell? ⟨b, 0, none⟩ = some (.pointer none)) (hsh : w.shape? b = some (61, 2)) (hfz : w.frozen? ⟨b, 0, none⟩ = false) :
    Calls Try.prog 52 #[.pointer (some ⟨b, 0, none⟩)] w fun e w' => e = .returned (.tuple #[]) ∧ w' = w.setCell ⟨b, 0, none⟩ (.pointer (some ⟨b, 0, none⟩)) := by
  obtain ⟨j, hj, hjs⟩ := Option.map_eq_some_iff.1 infoB
  go_enter Try.func52, Try.ntmps52
  go_wp2
  rw [Lib.run_to_unsafe w ⟨b, 0, none⟩ Try.underlying59 Try.underlying89 hj (by rw [hjs]; decide) hsh (Nat.zero_lt_succ 1)]
  simp only [Result.andThen]
  rw [Oper.upon_value]
  go_wp2
  rw [run_callFunc_extern Try.func58 (by kernel_rfl) (by kernel_rfl) (by kernel_rfl) (e := Extern.AbiNoEscape.same) (by kernel_rfl)]
  rw [Lib.run_noEscape]
  simp only [Result.andThen]
  rw [Oper.upon_value]
  go_wp2
  rw [Lib.run_from_unsafe w ⟨b, 0, none⟩ Try.underlying89 Try.underlying59 hj hsh (by kernel_rfl)]
  simp only [Result.andThen]
  rw [Oper.upon_value]
  go_wp2
  go_end0
  exact ⟨rfl, rfl⟩
theorem check_calls (B b : Nat) (p v : Value) (l : List UInt8) (w : World) (h : BldAt B b p v l w) :
    Calls Try.prog 52 #[.pointer (some ⟨b, 0, none⟩)] w fun e w' => e = .returned (.tuple #[]) ∧ BldAt B b (.pointer (some ⟨b, 0, none⟩)) v l w' ∧ Below B w w' ∧ KeepBut w w' b none := by
  obtain ⟨hb, ho, hne, hB, rfl | rfl⟩ := h
  · refine (check_fresh b w ((blk_cell hb 0).trans rfl) (by simp [World.shape?, hb]) (blk_frozen hb 0)).mono ?_
    rintro e w' ⟨rfl, rfl⟩
    exact ⟨rfl, ⟨blk_put (cs := #[.pointer none, v]) hb 0 _ rfl, own_move ho (fun k hk => Below.heap_setCell w ⟨b, 0, none⟩ _ k (fun e => hne (by rw [hk, e]))), hne, hB, .inr rfl⟩, (Below.refl B w).setCell hB _, keep_set (KeepBut.refl w b none) 0 _⟩
  · refine (check_used b w ((blk_cell hb 0).trans rfl)).mono ?_
    rintro e w' ⟨rfl, rfl⟩
    exact ⟨rfl, ⟨hb, ho, hne, hB, .inr rfl⟩, Below.refl _ _, KeepBut.refl _ _ _⟩
set_option maxHeartbeats 1000000 in
set_option maxRecDepth 100000 in
theorem ws_calls (B b : Nat) (p v : Value) (l : List UInt8) (t : ByteArray) (w : World) (h : BldAt B b p v l w) (hBw : B ≤ w.heap.size) (hlen : l.length + t.size ≤ 140737488355328) :
    Calls Try.prog 32 #[.pointer (some ⟨b, 0, none⟩), .string t] w fun e w' => e = .returned (.tuple #[.int .i64 t.size, .nilIface]) ∧ (∃ v', BldAt B b (.pointer (some ⟨b, 0, none⟩)) v' (l ++ t.data.toList) w') ∧ Below B w w' := by
  have H0 := Aside0.mk h
  have HBW := Aside0.mk hBw
  have HLN := Aside0.mk (show (bl l).length + t.size ≤ 140737488355328 by rw [bl_length]; omega)
  have HAPP := Aside0.mk (show bl l ++ bytesOf t = bl (l ++ t.data.toList) by rw [bl_append]; rfl)
  clear h hBw hlen
  go_enter Try.func32, Try.ntmps32
  go_wp2_with (first
    | (go_at_call 52; (with_reducible refine (check_calls B b p v l _ H0.out).mono ?_); rintro e w1 ⟨rfl, h1, hb1, hk1⟩; have H1 := Aside0.mk h1; have HB1 := Aside0.mk hb1; clear h1 hb1 hk1; obtain ⟨hc0, hc1, hf0, hf1⟩ := blk_all2 H1.out.1; clear hc0 hf0)
    | ((with_reducible refine gate_dst (N := 14) rfl ?_); refine print_append_str (w0 := w) B rfl _ _ 52 9 5 rfl Try.underlying52 Try.underlying9 info8 v (bl l) _ rfl rfl H1.out.2.1 HB1.out (Nat.le_trans HBW.out HB1.out.size) HLN.out ?_; intro v2 w2 hown hb2 hgr; rw [HAPP.out] at hown; obtain ⟨A2, c2, rfl, hcc2⟩ := own_shape hown; have HO2 := Aside0.mk hown; have HB2 := Aside0.mk hb2; have HBK := Aside0.mk (blk_grown H1.out.1 hgr (fun e => H1.out.2.2.1 e.symm)); clear hown hb2 hgr hcc2 hc1 hf1; obtain ⟨hc0, hc1, hf0, hf1⟩ := blk_all2 HBK.out; clear hc0 hf0))
  have hne : (Value.slice A2 (bl (l ++ t.data.toList)).length c2).ownBlock ≠ some b := by
    intro e
    obtain ⟨cells, hcc⟩ := own_typed HO2.out b e
    rw [HBK.out] at hcc
    simp at hcc
  go_ret2
  exact ⟨rfl, ⟨_, ⟨blk_put (cs := #[.pointer (some ⟨b, 0, none⟩), v]) HBK.out 1 _ rfl, own_move HO2.out (fun k hk => Below.heap_setCell _ ⟨b, 1, none⟩ _ k (fun e => hne (by rw [hk, e]))), hne, H1.out.2.2.2.1, .inr rfl⟩⟩, HB2.out.setCell H1.out.2.2.2.1 _⟩
theorem str_calls (B b : Nat) (p v : Value) (l : List UInt8) (w : World) (h : BldAt B b p v l w) (hBw : B ≤ w.heap.size) :
    Calls Try.prog 35 #[.pointer (some ⟨b, 0, none⟩)] w fun e w' => e = .returned (.string ⟨l.toArray⟩) ∧ Below B w w' := by
  obtain ⟨hb, ho, hne, hB, hp⟩ := h
  have e : nums .u8 (bl l) = Lib.byteCells l := by simp [nums, bl, Lib.byteCells]
  have e2 : (bl l).length = (Lib.byteCells l).length := by rw [bl_length, Lib.byteCells_length]
  rw [e, e2] at ho
  refine Try.Builder_String_any B b l w ?_ hBw
  rcases hp with rfl | rfl
  · exact .inl ⟨hB, v, hb, ho, hne⟩
  · exact .inr ⟨hB, v, hb, ho, hne⟩
/-- Block b, one from B on, is a builder that holds s. -/
def Bld (B b : Nat) (s : ByteArray) (w : World) : Prop := ∃ p v, BldAt B b p v s.data.toList w
theorem Bld.new (w : World) : Bld w.heap.size w.heap.size (⟨#[]⟩ : ByteArray) (w.alloc (.cells #[.pointer none, .slice none 0 0] 61)) := ⟨_, _, BldAt.new w⟩
theorem Bld.below {B b : Nat} {s : ByteArray} {w w' : World} (h : Bld B b s w) (hb : Below w.heap.size w w') : Bld B b s w' := by
  obtain ⟨p, v, hblk, hown, hne, hB, hp⟩ := h
  refine ⟨p, v, blk_below hblk hb, hown.kept (row := none) (grown_of_below hb none) ?_, hne, hB, hp⟩
  cases hv : v.ownBlock with
  | none => exact .inl rfl
  | some k => exact .inr (by simp)
theorem Bld.alloc {B b : Nat} {s : ByteArray} {w : World} (h : Bld B b s w) (o : Obj) : Bld B b s (w.alloc o) := h.below (below_alloc (Below.refl _ _) o)
theorem Bld.drewN {B b : Nat} {s : ByteArray} {w : World} (h : Bld B b s w) (n : Nat) : Bld B b s (w.drewN n) := h.below (pw_below_drewN (Below.refl _ _) n)
theorem Bld.drew {B b : Nat} {s : ByteArray} {w : World} (h : Bld B b s w) : Bld B b s w.drew := h.below (below_drew1 (Below.refl _ _))
theorem bld_WriteString (B b : Nat) (s t : ByteArray) (w : World) (h : Bld B b s w) (hlen : s.size + t.size ≤ 140737488355328) (hBw : B ≤ w.heap.size) :
    Calls Try.prog 32 #[.pointer (some ⟨b, 0, none⟩), .string t] w fun e w' => e = .returned (.tuple #[.int .i64 t.size, .nilIface]) ∧ Bld B b (s ++ t) w' ∧ Below B w w' := by
  obtain ⟨p, v, h⟩ := h
  exact (ws_calls B b p v _ t w h hBw hlen).mono fun e w' ⟨he, ⟨v', h'⟩, hb⟩ => ⟨he, ⟨_, v', by rw [show (s ++ t).data.toList = s.data.toList ++ t.data.toList by simp]; exact h'⟩, hb⟩
theorem bld_String (B b : Nat) (s : ByteArray) (w : World) (h : Bld B b s w) (hBw : B ≤ w.heap.size) :
    Calls Try.prog 35 #[.pointer (some ⟨b, 0, none⟩)] w fun e w' => e = .returned (.string s) ∧ Below B w w' := by
  obtain ⟨p, v, h⟩ := h
  exact str_calls B b p v _ w h hBw
set_option maxHeartbeats 1000000 in
set_option maxRecDepth 100000 in
theorem bld_Len (B b : Nat) (s : ByteArray) (w : World) (h : Bld B b s w) :
    Calls Try.prog 34 #[.pointer (some ⟨b, 0, none⟩)] w fun e w' => e = .returned (.int .i64 s.size) ∧ w = w' := by
  obtain ⟨p, v, hb, ho, hne, hB, hp⟩ := h
  obtain ⟨A2, c2, rfl, hcc2⟩ := own_shape ho
  have hz : (bl s.data.toList).length = s.size := by rw [bl_length]; rfl
  rw [hz] at hb
  obtain ⟨hc0, hc1, hf0, hf1⟩ := blk_all2 hb
  clear hc0 hf0 ho hne hB hp hcc2 hz
  go_enter Try.func34, Try.ntmps34
  go_wp2
  go_ret
  exact ⟨rfl, rfl⟩
end Go.Proofs.Ytnlphphaajkjpaa.Sha
