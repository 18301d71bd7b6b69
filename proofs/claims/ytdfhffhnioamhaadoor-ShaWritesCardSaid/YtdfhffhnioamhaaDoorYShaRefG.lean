/- The document's sum of a text: walked. -/
import Derived.Test.YtdfhffhnioamhaaDoorYShaRefD
import Derived.StillTailTactics
namespace Go.Proofs.YtdfhffhnioamhaaDoor.Sha
open Go Go.RowKit Go.Proofs.YtdfhffhnioamhaaDoorW.PrintWords Go.Proofs.YtdfhffhnioamhaaDoorW.PrintLast Go.Proofs.YtdfhffhnioamhaaDoorW.PrintMore
set_option linter.unusedVariables false
set_option linter.unusedSimpArgs false

def Must4 : Prop := ∀ (x : W32) (w : World), Calls Tryd.prog 33 #[.int .i64 (x.toNat : Int), .int .i64 4] w fun e w' => e = .returned (.string ⟨(be4 x).toArray⟩) ∧ Below w.heap.size w w'
def Must8 : Prop := ∀ (n : Nat) (w : World), n ≤ 100000000 → Calls Tryd.prog 33 #[.int .i64 (n : Int), .int .i64 8] w fun e w' => e = .returned (.string ⟨(be8 n).toArray⟩) ∧ Below w.heap.size w w'
def strSize : Value → Nat | .string t => t.size | _ => 0
theorem cat_list (a b : ByteArray) : (a ++ b).data.toList = a.data.toList ++ b.data.toList := by simp
theorem list_size {t : ByteArray} {l : List UInt8} (h : t.data.toList = l) : t.size = l.length := by rw [← h]; exact (data_length t).symm
set_option maxHeartbeats 2000000 in
set_option maxRecDepth 100000 in
theorem digest_calls (h4 : Must4) (h8 : Must8) (s : ByteArray) (hs : s.size ≤ 1000000) (w : World) : Calls Tryd.prog 14 #[.string s] w fun e w' => e = .returned (.string ⟨(digest s.data.toList).toArray⟩) ∧ Below w.heap.size w w' := by
  have HM4 := Aside0.mk h4
  have HM8 := Aside0.mk h8
  clear h4 h8
  obtain ⟨L, hL⟩ : ∃ L, s.data.toList = L := ⟨_, rfl⟩
  have hn := list_size hL
  obtain ⟨n, hn2⟩ : ∃ n, L.length = n := ⟨_, rfl⟩
  rw [hn2] at hn
  have HL := Aside0.mk hL
  have HLN := Aside0.mk hn2
  have HSZ := Aside0.mk hn
  have HN := Aside0.mk (show n ≤ 1000000 by omega)
  rw [hL]
  clear hL hn hn2 hs
  have q1 : ¬ (9223372036854775807 < s.size + 1) := by have := HN.out; have := HSZ.out; omega
  have q2 : ¬ (9223372036854775807 < s.size + (⟨#[128]⟩ : ByteArray).size) := by have := HN.out; have := HSZ.out; show ¬ (9223372036854775807 < s.size + 1); omega
  go_enter Tryd.func14, Tryd.ntmps14
  go_wp2
  clear q1 q2
  have HT0 : Aside0 ((s ++ (⟨#[128]⟩ : ByteArray)).data.toList = L ++ 128 :: List.replicate 0 0) := ⟨by rw [cat_list, HL.out]; rfl⟩
  generalize s ++ (⟨#[128]⟩ : ByteArray) = t0 at *
  rw [HSZ.out]
  go_loopw [0] (fun v0 w' => ∃ (z : Nat) (t : ByteArray), z ≤ zeros n ∧ v0 = .string t ∧ Aside0 (t.data.toList = L ++ 128 :: List.replicate z 0) ∧ w' = w) (fun v0 _ => n + 100 - strSize v0)
  case atStart => exact ⟨0, t0, Nat.zero_le _, rfl, HT0, rfl⟩
  case round =>
    clear HT0
    obtain ⟨z, t, hz, rfl, HT, rfl⟩ := hrel
    have hts : t.size = n + 1 + z := by rw [list_size HT.out]; simp [HLN.out]; omega
    have hz64 : zeros n < 64 := by unfold zeros; omega
    have q3 : ¬ (9223372036854775807 < t.size + 1) := by have := HN.out; omega
    have q4 : ¬ (9223372036854775807 < t.size + (⟨#[0]⟩ : ByteArray).size) := q3
    by_cases hlt : z < zeros n
    · have hne := pad_stops n z hlt
      rw [← hts] at hne
      have d1 : (((t.size : Nat) : Int) % 64 != 56) = true := bne_iff_ne.mpr (by omega)
      have HT2 : Aside0 ((t ++ (⟨#[0]⟩ : ByteArray)).data.toList = L ++ 128 :: List.replicate (z + 1) 0) := ⟨by
        rw [cat_list, HT.out, List.append_assoc, List.cons_append]
        show L ++ 128 :: (List.replicate z 0 ++ [0]) = _
        rw [← List.replicate_succ']⟩
      have hs2 : (t ++ (⟨#[0]⟩ : ByteArray)).size = n + 1 + (z + 1) := by rw [list_size HT2.out]; simp [HLN.out]; omega
      go_wp2
      refine ⟨⟨z + 1, _, by omega, rfl, HT2, trivial⟩, ?_⟩
      show n + 100 - (t ++ (⟨#[0]⟩ : ByteArray)).size < n + 100 - t.size
      omega
    · have he := pad_ends n
      obtain rfl : z = zeros n := by omega
      rw [← hts] at he
      have d1 : (((t.size : Nat) : Int) % 64 != 56) = false := by rw [bne_eq_false_iff_eq]; omega
      obtain ⟨m, hm⟩ := whole_len n
      obtain ⟨m8, hm8⟩ : ∃ k, n * 8 = k := ⟨_, rfl⟩
      have hx8 : wrap64 ((n : Int) * 8) = (m8 : Int) := by rw [show (n : Int) * 8 = (m8 : Int) by omega]; exact wr_nat _ (by have := HN.out; omega)
      have hM := fun w => HM8.out m8 w (by have := HN.out; omega)
      obtain ⟨b8, hb8⟩ : ∃ b : ByteArray, b = ⟨(be8 m8).toArray⟩ := ⟨_, rfl⟩
      have hbl : b8.data.toList = be8 m8 := by rw [hb8]
      have hbs : b8.size = 8 := by rw [list_size hbl]; rfl
      rw [← hb8] at hM
      have HM := Aside0.mk hM
      have HW0 : Aside0 ((t ++ b8).data.toList = L ++ tail n n) := ⟨by rw [cat_list, HT.out, hbl, ← hm8, List.append_assoc]; rfl⟩
      have HWS : Aside0 ((t ++ b8).size = 64 * m) := ⟨by rw [list_size HW0.out, List.length_append, tail_len, HLN.out, hm]⟩
      have q5 : ¬ (9223372036854775807 < t.size + b8.size) := by have := HN.out; omega
      have HMM := Aside0.mk hm
      have HMB := Aside0.mk (show m ≤ 100000 by have := HN.out; omega)
      have HI : Aside0 ((#[.int .u32 1779033703, .int .u32 3144134277, .int .u32 1013904242, .int .u32 2773480762, .int .u32 1359893119, .int .u32 2600822924, .int .u32 528734635, .int .u32 1541459225] : Array Value) = cells8 init) := ⟨by kernel_rfl⟩
      obtain ⟨w0, hw0⟩ : ∃ x, x = wr := ⟨_, rfl⟩
      have HB : Aside0 (Below w0.heap.size w0 wr) := ⟨by rw [hw0]; exact Below.refl _ _⟩
      have HW00 := Aside0.mk hw0
      clear hw0
      clear he hb8 hbl hbs hM hm8 hm hz hts hz64 q3 q4 hlt
      go_wp2_with (first
        | (go_at_call 33; (try rw [hx8]); (with_reducible refine (HM.out _).mono ?_); rintro e w2 ⟨rfl, hb⟩; have n0_ := Aside0.mk (below_step HB.out hb); clear HB hb; have HB := n0_; clear n0_)
        | ((with_reducible refine gate_dst (N := 4) rfl ?_); refine box_event ?hg (N := 4) ?hd (cs := cells8 zero8) (t := 53) ?hr ?_; (case hd => rfl); (case hg => rfl); (case hr => first | (go_simp; done) | (go_simp; rfl)); intro g4 hg wb_ hbox hb; have n0_ := Aside0.mk (below_step HB.out hb); have n1_ := Aside0.mk hbox; have n3_ := Aside0.mk ((by rw [hg]; exact (below_size HB.out) : w0.heap.size ≤ g4)); clear HB; have HB := n0_; have B4 := n1_; have GE := n3_; clear n0_ n1_ n3_; clear hb hbox hg)
        | ((with_reducible refine gate_store (t := 53) (p := 4) rfl ?_); refine store_all rfl 53 (.tmp 4) _ rfl g4 (cells8 init) rfl (congrArg Value.agg HI.out) 53 _ B4.out (size8 _) rfl (cells8_one _) ?_; intro ws_ hrow_ hgr_ hbl_; have q_ := Aside0.mk (hbl_ w0 w0.heap.size GE.out HB.out); clear HB; have HB := q_; clear q_; clear B4; have B4 := Aside0.mk hrow_; clear hrow_ hgr_ hbl_; (try simp only [Act.put, List.setIfInBounds_toArray, List.set_cons_zero, List.set_cons_succ])))
      clear q5 hx8 d1 HI HM HM8 HT
      generalize hT : t ++ b8 = T at *
      clear hT
      have B4' : Aside0 (ws_.heap[g4]? = some (.cells (cells8 (sts init (L ++ tail n n) 0)) 53 (0, 0))) := B4
      go_loopw [5] (fun v5 w' => ∃ j : Nat, j ≤ m ∧ v5 = .int .i64 ((64 * j : Nat) : Int) ∧ Aside0 (w'.heap[g4]? = some (.cells (cells8 (sts init (L ++ tail n n) j)) 53 (0, 0))) ∧ Aside0 (Below w0.heap.size w0 w')) (fun v5 _ => 64 * m - (intOf v5).toNat)
      case atStart => exact ⟨0, Nat.zero_le _, rfl, B4', HB⟩
      case round =>
        clear B4 B4' HB
        obtain ⟨j, hj, rfl, B4, HB⟩ := hrel
        obtain ⟨i, hi⟩ : ∃ i, 64 * j = i := ⟨_, rfl⟩
        rw [hi]
        have hts := HWS.out
        by_cases hlt : j < m
        · have d1 : decide ((i : Int) < (T.size : Int)) = true := decide_eq_true (by omega)
          obtain ⟨X, hX⟩ : ∃ X : ByteArray, X = T.extract i (i + 64) := ⟨_, rfl⟩
          have hXs : X.size = 64 := by rw [hX, ByteArray.size_extract]; omega
          have hXl : X.data.toList = blkL (L ++ tail n n) j := by
            rw [hX, ByteArray.data_extract, Array.toList_extract, List.extract_eq_take_drop, HW0.out, show i + 64 - i = 64 by omega, ← hi]; rfl
          have hlt2 : i < T.size := by omega
          have hsl : ∀ W, (Instr.slice 9 (.string T) (some (.int .i64 (i : Int))) (some (.int .i64 ((i : Int) + 64))) none).run Tryd.prog W = .ok (.string X) W := fun W => by
            have h := run_slice_string (P := Tryd.prog) W 9 T .i64 .i64 (i : Int) ((i : Int) + 64) Tryd.underlying9 (by omega) (by omega) (by omega)
            rw [show ((i : Int)).toNat = i by omega, show ((i : Int) + 64).toNat = i + 64 by omega, ← hX] at h
            exact h
          have p5 : wrap64 ((i : Int) + 64) = (i : Int) + 64 := by rw [show (i : Int) + 64 = ((i + 64 : Nat) : Int) by omega]; exact wr_nat _ (by have := HMB.out; omega)
          have w5 : IntKind.i64.wrap ((i : Int) + 64) = (i : Int) + 64 := by rw [IntKind.wrap_i64]; have := HMB.out; omega
          have hstep : sts init (L ++ tail n n) (j + 1) = take (sts init (L ++ tail n n) j) X.data.toList := by rw [hXl]; rfl
          have htk := fun w => rtake_calls (sts init (L ++ tail n n) j) X hXs w
          obtain ⟨S2, hS2⟩ : ∃ S2, take (sts init (L ++ tail n n) j) X.data.toList = S2 := ⟨_, rfl⟩
          rw [hS2] at htk hstep
          have HST := Aside0.mk hstep
          have HTK := Aside0.mk htk
          clear htk hS2
          have HJ := Aside0.mk (show j + 1 ≤ m by omega)
          have HI2 := Aside0.mk (show 64 * (j + 1) = i + 64 by omega)
          have HI3 := Aside0.mk (show i + 64 ≤ 64 * m by omega)
          generalize sts init (L ++ tail n n) j = S at *
          clear hX hXs hXl hstep hi hj hlt hts
          obtain ⟨c0, c1, c2, c3, c4, c5, c6, c7⟩ := c8_all B4.out
          go_upto_region 10 with fail
          go_still_tail 6, (by kernel_rfl)
          clear c0 c1 c2 c3 c4 c5 c6 c7
          change wpList _ _ _ _ _ wr.drew
          have B4d : Aside0 (wr.drew.heap[g4]? = some (.cells (cells8 S) 53 (0, 0))) := B4
          have HBd : Aside0 (Below w0.heap.size w0 wr.drew) := ⟨below_drew1 HB.out⟩
          generalize wr.drew = W1 at *
          go_wp2_with (first
            | (go_at_call 34; refine (HTK.out _).mono ?_; rintro e w2 ⟨rfl, hb⟩; have n0_ := Aside0.mk (below_step HBd.out hb); have n1_ := Aside0.mk (blk_below B4d.out hb); clear HBd B4d hb; have HBd := n0_; have B4d := n1_; clear n0_ n1_)
            | ((with_reducible refine gate_store (t := 53) (p := 4) rfl ?_); refine store_all rfl 53 (.tmp 4) _ rfl g4 (cells8 S2) rfl rfl 53 (cells8 S) B4d.out (size8 S2) rfl (cells8_one S2) ?_; intro ws_ hrow_ hgr_ hbl_; have HBS := Aside0.mk (hbl_ w0 w0.heap.size GE.out HBd.out); have B4S := Aside0.mk hrow_; clear hrow_ hgr_ hbl_; (try simp only [Act.put, List.setIfInBounds_toArray, List.set_cons_zero, List.set_cons_succ])))
          refine ⟨?_, by simp [intOf]; have := HI3.out; omega⟩
          exact ⟨j + 1, HJ.out, by rw [HI2.out]; go_num, ⟨by rw [HST.out]; exact B4S.out⟩, HBS⟩
        · obtain rfl : j = m := by omega
          have d1 : decide ((i : Int) < (T.size : Int)) = false := decide_eq_false (by omega)
          have hnl : ¬ i < T.size := by omega
          have hdg := digest_whole L j (by rw [HLN.out]; exact HMM.out)
          rw [HLN.out] at hdg
          have HDG := Aside0.mk hdg
          generalize sts init (L ++ tail n n) j = S at *
          clear hdg hi hj hlt hts
          have B4' := B4
          have HB' := HB
          clear B4 HB
          go_wp2
          go_loopw [6, 7] (fun v6 v7 w' => ∃ (k : Nat) (o : ByteArray), k ≤ 8 ∧ v7 = .int .i64 (k : Int) ∧ v6 = .string o ∧ Aside0 (o.data.toList = (out S).take (4 * k)) ∧ Aside0 (w'.heap[g4]? = some (.cells (cells8 S) 53 (0, 0))) ∧ Aside0 (Below w0.heap.size w0 w')) (fun _ v7 _ => 8 - (intOf v7).toNat)
          case atStart => exact ⟨0, ⟨#[]⟩, by omega, rfl, rfl, ⟨rfl⟩, B4', HB'⟩
          case round =>
            clear B4' HB' d1 hnl
            obtain ⟨k, o, hk, rfl, rfl, HO, B4, HB⟩ := hrel
            by_cases h8 : k < 8
            · have d8 : decide ((k : Int) < 8) = true := decide_eq_true (by omega)
              have hck : wr.cell? ⟨g4, k, none⟩ = some (.int .u32 ((S.at k).toNat : Int)) := (blk_cell B4.out k).trans (c8_at S k h8)
              have hos : o.size = 4 * k := by rw [list_size HO.out, List.length_take, out_length]; omega
              have hoa := out_at S k h8
              generalize S.at k = x at *
              obtain ⟨b4, hb4⟩ : ∃ b : ByteArray, b = ⟨(be4 x).toArray⟩ := ⟨_, rfl⟩
              have hbl : b4.data.toList = be4 x := by rw [hb4]
              have hbs : b4.size = 4 := by rw [list_size hbl]; rfl
              have hM := fun w => HM4.out x w
              rw [← hb4] at hM
              have HM := Aside0.mk hM
              have HO2 : Aside0 ((o ++ b4).data.toList = (out S).take (4 * (k + 1))) := ⟨by rw [cat_list, HO.out, hbl, hoa]⟩
              have q5 : ¬ (9223372036854775807 < o.size + b4.size) := by omega
              have HN2 := Aside0.mk (show k + 1 ≤ 8 by omega)
              have z0 : (0 : Int) ≤ (k : Int) := by omega
              have z1 : (k : Int) < 8 := by omega
              have hx := x.isLt
              have hw : wrap64 (x.toNat : Int) = (x.toNat : Int) := wr_nat _ (by omega)
              clear hk hos hoa hb4 hbl hbs hM hx
              go_wp2_with (first
                | (go_at_call 33; (try rw [hw]); (with_reducible refine (HM.out _).mono ?_); rintro e w2 ⟨rfl, hb⟩; have n0_ := Aside0.mk (below_step HB.out hb); have n1_ := Aside0.mk (blk_below B4.out hb); clear HB B4 hb; have HB := n0_; have B4 := n1_; clear n0_ n1_))
              refine ⟨?_, by simp [intOf]; have := HN2.out; omega⟩
              exact ⟨k + 1, o ++ b4, HN2.out, by go_num, rfl, HO2, B4, HB⟩
            · obtain rfl : k = 8 := by omega
              have d8 : decide (((8 : Nat) : Int) < 8) = false := by decide
              have hall : (out S).take (4 * 8) = out S := List.take_of_length_le (by rw [out_length]; decide)
              have hoo : o = ⟨(digest L).toArray⟩ := by
                have h := HO.out
                rw [hall, ← HDG.out] at h
                obtain ⟨⟨l⟩⟩ := o
                exact congrArg (fun l => (⟨⟨l⟩⟩ : ByteArray)) h
              subst hoo
              clear hall hk h8
              go_wp2
              go_ret
              exact ⟨rfl, by rw [← HW00.out]; exact HB.out⟩
end Go.Proofs.YtdfhffhnioamhaaDoor.Sha
