/- The sum of what was written: walked. -/
import Derived.Test.YtfihbohdhcidbaaDoorYShaFork
namespace Go.Proofs.YtfihbohdhcidbaaDoor.Sha
open Go Go.RowKit Go.Proofs.YtfihbohdhcidbaaDoorW.PrintWords Go.Proofs.YtfihbohdhcidbaaDoorW.PrintLast Go.Proofs.YtfihbohdhcidbaaDoorW.PrintMore
set_option linter.unusedVariables false
set_option linter.unusedSimpArgs false

def slen : Value → Nat
  | .slice _ n _ => n
  | _ => 0
def padL (m : Nat) : List UInt8 := 128 :: List.replicate (m - 1) 0
theorem padL_length (m : Nat) (h : 1 ≤ m) : (padL m).length = m := by simp [padL]; omega
theorem padL_succ (m : Nat) (h : 1 ≤ m) : bl (padL m) ++ [0] = bl (padL (m + 1)) := by
  obtain ⟨k, rfl⟩ : ∃ k, m = k + 1 := ⟨m - 1, by omega⟩
  have : padL (k + 1 + 1) = padL (k + 1) ++ [0] := by simp [padL, List.replicate_succ']
  rw [this, bl_append]; rfl
theorem HashAt.below {B B2 : Nat} {w w' : World} {g : Nat} {s : S8} {rest : List UInt8} {long : Nat} {rv : Value} (h : HashAt B w g s rest long rv) (hb : Below B2 w w') (h2 : w.heap.size ≤ B2) : HashAt B w' g s rest long rv := by
  obtain ⟨h1, h3, h4⟩ := h
  refine ⟨(hb.block g (Nat.lt_of_lt_of_le (blk_lt h1) h2)).trans h1, own_move h3 (fun k hk => ?_), h4⟩
  obtain ⟨cells, hc⟩ := own_typed h3 k hk
  exact hb.block k (Nat.lt_of_lt_of_le (blk_lt hc) h2)
theorem be8_take (c j : Nat) (hj : j < 8) : (be8 c).take (j + 1) = (be8 c).take j ++ [UInt8.ofNat (c / 2 ^ (56 - 8 * j))] := by
  have h : j = 0 ∨ j = 1 ∨ j = 2 ∨ j = 3 ∨ j = 4 ∨ j = 5 ∨ j = 6 ∨ j = 7 := by omega
  rcases h with rfl | rfl | rfl | rfl | rfl | rfl | rfl | rfl <;> simp [be8]
theorem byte_of (c : Nat) : ((UInt8.ofNat c).toNat : Int) = (c : Int) % 256 := by rw [UInt8.toNat_ofNat']; omega
theorem out_take (s : S8) (i : Nat) (hi : i < 8) : (out s).take (4 * (i + 1)) = (out s).take (4 * i) ++ be4 (s.at i) := by
  have h : i = 0 ∨ i = 1 ∨ i = 2 ∨ i = 3 ∨ i = 4 ∨ i = 5 ∨ i = 6 ∨ i = 7 := by omega
  rcases h with rfl | rfl | rfl | rfl | rfl | rfl | rfl | rfl <;> simp [out, be4, S8.at]
theorem be4_bl (x : W32) : bl (be4 x) = [(x.toNat : Int) / 16777216, (x.toNat : Int) / 65536 % 256, (x.toNat : Int) / 256 % 256, (x.toNat : Int) % 256] := by
  unfold bl be4
  simp only [List.map_cons, List.map_nil, byte_of]
  have h := x.isLt
  have e : ((x.toNat / 2 ^ 24 : Nat) : Int) % 256 = (x.toNat : Int) / 16777216 := by omega
  rw [e]
  rfl
theorem str_bl (l : List UInt8) : strOfNums (bl l) = ⟨l.toArray⟩ := by
  unfold strOfNums bl
  congr 2
  rw [List.map_map]
  conv => rhs; rw [← List.map_id l]
  apply List.map_congr_left
  intro b _
  simp

set_option maxHeartbeats 4000000 in
set_option maxRecDepth 100000 in
theorem sum_calls (B g : Nat) (s : S8) (rest : List UInt8) (long : Nat) (rv : Value) (w : World) (hK : Consts w) (h : HashAt B w g s rest long rv) (hlen : rest.length ≤ 1000000000000) (hlong : long ≤ 1000000000000000000) :
    Calls Tryd.prog 44 #[.pointer (some ⟨g, 0, none⟩)] w fun e w' => e = .returned (.string ⟨(fin s rest long).toArray⟩) ∧ Below w.heap.size w w' := by
  have HK := Aside0.mk hK
  have HH := Aside0.mk h
  have HLEN := Aside0.mk hlen
  have HLONG := Aside0.mk hlong
  have HB0 := Aside0.mk (World.block_lt_of_cell? w _ (hK 0 (by decide)))
  obtain ⟨n, hn⟩ : ∃ n, rest.length = n := ⟨_, rfl⟩
  obtain ⟨z, hz⟩ : ∃ z, zeros n = z := ⟨_, rfl⟩
  have HN := Aside0.mk hn
  have HZ := Aside0.mk hz
  clear hK h hlen hlong hn hz
  have HBL : Aside0 ((bl rest).length = n) := ⟨by rw [bl_length]; exact HN.out⟩
  go_enter Tryd.func44, Tryd.ntmps44
  go_wp2_with (first | (go_at_call 68; (with_reducible refine (fork_calls B g s rest long rv _ HH.out (Nat.le_trans HLEN.out (by decide))).mono ?_); rintro e w3 ⟨⟨g2, rv2, rfl, hh2, hlt2⟩, hb3⟩; have HH2 := Aside0.mk hh2; have HB3 := Aside0.mk hb3; have HLT := Aside0.mk hlt2; clear hh2 hb3 hlt2))
  obtain ⟨A2, c2, hrv2, hcc2⟩ := own_shape HH2.out.2.1
  rw [HBL.out] at hrv2
  subst hrv2
  clear hcc2
  have HO0 : Aside0 ((w3.alloc (.cells #[.int .u8 128] 5)).ownsRow w3.heap.size 5 1 (.slice (some ⟨w3.heap.size, 0, none⟩) 1 1) 1 (nums .u8 (bl (padL 1)))) := ⟨own_lit w3 w3.heap.size 5 .u8 [128] (Nat.le_refl _) (by decide)⟩
  have HW0 : Aside0 (Below w3.heap.size w3 (w3.alloc (.cells #[.int .u8 128] 5))) := ⟨below_alloc (Below.refl _ _) _⟩
  go_loopw [4] (fun v4 w' => ∃ (m : Nat) (A : Option Addr) (c : Nat), 1 ≤ m ∧ m ≤ z + 1 ∧ v4 = .slice A m c ∧ Aside0 (w'.ownsRow w3.heap.size 5 1 (.slice A m c) m (nums .u8 (bl (padL m)))) ∧ Aside0 (Below w3.heap.size w3 w')) (fun v4 _ => z + 1 - slen v4)
  case atStart => exact ⟨1, _, _, Nat.le_refl _, by omega, rfl, HO0, HW0⟩
  case round =>
    clear HO0 HW0
    obtain ⟨m, A4, c4, hm1, hm2, rfl, HO, HW⟩ := hrel
    have hh := HH2.out.below HW.out (Nat.le_refl _)
    obtain ⟨hc0, hc1, hc2, hc3, hc4, hc5, hc6, hc7, hc8, hc9, hf0, hf1, hf2, hf3, hf4, hf5, hf6, hf7, hf8, hf9⟩ := blk_all10 hh.1
    clear hc0 hc1 hc2 hc3 hc4 hc5 hc6 hc7 hc9 hf0 hf1 hf2 hf3 hf4 hf5 hf6 hf7 hf8 hf9 hh
    have hz := HZ.out
    have hn2 : n ≤ 1000000000000 := by have := HLEN.out; have := HN.out; omega
    unfold zeros at hz
    obtain ⟨nm, hnm⟩ : ∃ nm, nm = n + m := ⟨_, rfl⟩
    obtain ⟨r, hr⟩ : ∃ r, r = nm % 64 := ⟨_, rfl⟩
    have q1 : (n : Int) + (m : Int) = (nm : Int) := by omega
    have hw : nm ≤ 4611686018427387904 := by omega
    have t1 : Int.tmod (nm : Int) 64 = (r : Int) := by rw [Int.tmod_eq_emod_of_nonneg (by omega)]; omega
    by_cases h56 : r = 56
    · have hmz : m = z + 1 := by omega
      have d1 : ((r : Int) != 56) = false := by rw [h56]; rfl
      have d2 : ((r : Int) == 56) = true := by rw [h56]; rfl
      have hh0 := (HH.out.below HB3.out (Nat.le_refl _)).below HW.out (Nat.le_refl _)
      obtain ⟨hd0, hd1, hd2, hd3, hd4, hd5, hd6, hd7, hd8, hd9, hg0, hg1, hg2, hg3, hg4, hg5, hg6, hg7, hg8, hg9⟩ := blk_all10 hh0.1
      clear hd0 hd1 hd2 hd3 hd4 hd5 hd6 hd7 hd8 hg0 hg1 hg2 hg3 hg4 hg5 hg6 hg7 hg8 hg9 hh0
      obtain ⟨cnt, hcnt⟩ : ∃ cnt, cnt = long * 8 := ⟨_, rfl⟩
      have y1 : (long : Int) % 18446744073709551616 = (long : Int) := by have := HLONG.out; omega
      have y3 : (long : Int) * 8 = (cnt : Int) := by omega
      have y2 : (cnt : Int) % 18446744073709551616 = (cnt : Int) := by have := HLONG.out; omega
      have HM1 := Aside0.mk hm1
      have HMZ := Aside0.mk hmz
      have HCNT := Aside0.mk hcnt
      have HSM := Aside0.mk (show m ≤ 64 by omega)
      clear hm1 hm2 hz hn2 hnm hr h56 hmz hcnt
      have q0 : wrap64 (nm : Int) = (nm : Int) := wrapN hw
      have x1 : wrap64 ((n : Int) + (m : Int)) = (nm : Int) := by rw [q1]; exact q0
      clear hw
      go_wp2
      clear x1 q0 q1 t1 d1 d2 y1 y2 y3 hd9 hc8
      have HO0 : Aside0 (wr.ownsRow w3.heap.size 5 1 (.slice A4 (m + 0) c4) (m + 0) (nums .u8 (bl (padL m ++ (be8 cnt).take 0)))) := ⟨by rw [List.take_zero, List.append_nil]; exact HO.out⟩
      go_loopw [4, 6] (fun v4 v6 w' => ∃ (j : Nat) (A : Option Addr) (c : Nat), j ≤ 8 ∧ v6 = .int .i64 (56 - 8 * (j : Int)) ∧ v4 = .slice A (m + j) c ∧ Aside0 (w'.ownsRow w3.heap.size 5 1 (.slice A (m + j) c) (m + j) (nums .u8 (bl (padL m ++ (be8 cnt).take j)))) ∧ Aside0 (Below w3.heap.size w3 w')) (fun _ v6 _ => (intOf v6 + 8).toNat)
      case atStart => exact ⟨0, A4, c4, by omega, rfl, rfl, HO0, HW⟩
      case round =>
        clear HO HW HO0
        obtain ⟨j, A6, c6, hj, rfl, rfl, HO, HW⟩ := hrel
        by_cases h8 : j < 8
        · obtain ⟨sh, hsh⟩ : ∃ sh : Nat, 56 - 8 * (j : Int) = (sh : Int) := ⟨56 - 8 * j, by omega⟩
          rw [hsh]
          obtain ⟨s2, hs2⟩ : ∃ s2 : Int, s2 = 56 - 8 * ((j + 1 : Nat) : Int) := ⟨_, rfl⟩
          have q2 : (sh : Int) - 8 = s2 := by omega
          have q3 : wrap64 s2 = s2 := by unfold wrap64; omega
          have x2 : wrap64 ((sh : Int) - 8) = s2 := by rw [q2]; exact q3
          obtain ⟨mj, hmj⟩ : ∃ mj, mj = m + j := ⟨_, rfl⟩
          rw [← hmj] at HO ⊢
          have d1 : decide ((sh : Int) ≥ 0) = true := decide_eq_true (by omega)
          have d2 : decide (0 ≤ (sh : Int)) = true := decide_eq_true (by omega)
          have p1 : (0 : Int) ≤ (sh : Int) := by omega
          have hshn : 56 - 8 * j = sh := by omega
          have hmin : min sh 64 = sh := by omega
          have HL6 := Aside0.mk (show (bl (padL m ++ (be8 cnt).take j)).length = mj by rw [bl_length, List.length_append, padL_length m HM1.out, List.length_take]; simp [be8]; omega)
          have HAPP := Aside0.mk (show bl (padL m ++ (be8 cnt).take j) ++ [(cnt : Int) / 2 ^ min sh 64 % 256] = bl (padL m ++ (be8 cnt).take (j + 1)) by
            rw [be8_take cnt j h8, ← List.append_assoc, bl_append (padL m ++ (be8 cnt).take j), hshn, hmin]
            congr 1)
          have HL7 := Aside0.mk (show (bl (padL m ++ (be8 cnt).take (j + 1))).length = m + (j + 1) by rw [bl_length, List.length_append, padL_length m HM1.out, List.length_take]; simp [be8]; omega)
          have HSM6 := Aside0.mk (show ((bl (padL m ++ (be8 cnt).take j)).length + 1) * 1 ≤ 140737488355328 by rw [HL6.out]; have := HSM.out; omega)
          have HOm : Aside0 (wr.ownsRow w3.heap.size 5 1 (.slice A6 mj c6) (bl (padL m ++ (be8 cnt).take j)).length (nums .u8 (bl (padL m ++ (be8 cnt).take j)))) := ⟨by rw [HL6.out]; exact HO.out⟩
          have HS2 := Aside0.mk hs2
          have HSH := Aside0.mk (show 8 * j + sh = 56 by omega)
          have HJ := Aside0.mk (show j + 1 ≤ 8 by omega)
          clear HO hj h8 hsh hs2 hmj hshn hmin
          go_wp2_with (first | ((with_reducible refine gate_dst (N := 42) rfl ?_); refine print_append_num (w0 := w3) w3.heap.size rfl _ _ 66 5 .u8 1 rfl Tryd.underlying66 info8 (by decide) (.slice A6 mj c6) (bl (padL m ++ (be8 cnt).take j)) _ rfl rfl HOm.out HW.out HW.out.size HSM6.out ?_; intro v5 w5 hown hb5 hgr hat; rw [HAPP.out, HL7.out] at hown; obtain ⟨A5, c5, rfl, hcc5⟩ := own_shape hown; have HO5 := Aside0.mk hown; have HW5 := Aside0.mk hb5; clear hown hb5 hgr hat hcc5 HOm HW))
          have Q3 := Aside0.mk q3
          clear x2 q2 q3 d1 d2 p1
          rw [Q3.out]
          refine ⟨?_, by simp [intOf]; have := HS2.out; have := HSH.out; omega⟩
          exact ⟨j + 1, A5, c5, HJ.out, by rw [HS2.out], rfl, HO5, HW5⟩
        · obtain rfl : j = 8 := by omega
          have d1 : decide ((56 : Int) - 8 * ((8 : Nat) : Int) ≥ 0) = false := by decide
          have d3 : decide (0 ≤ (56 : Int) - 8 * ((8 : Nat) : Int)) = false := by decide
          have htl : padL m ++ (be8 cnt).take 8 = tail n long := by
            unfold tail padL
            rw [HZ.out, HMZ.out, HCNT.out]
            rfl
          have hlt : (bl (tail n long)).length = m + 8 := by rw [bl_length, ← htl, List.length_append, padL_length m HM1.out]; rfl
          have hTL : (tail n long).length = m + 8 := by rw [← bl_length]; exact hlt
          rw [htl] at HO
          have hrd : ReadsInt wr .u8 A6 (m + 8) (bl (tail n long)) := own_reads' HO.out
          have hcv : (convert 66 9 (.slice A6 (m + 8) c6)).run Tryd.prog wr = .ok (.string ⟨(tail n long).toArray⟩) wr := by
            rw [string_of_reads Tryd.underlying66 Tryd.underlying5 Tryd.underlying9 hrd, str_bl]
          have hhw := HH2.out.below HW.out (Nat.le_refl _)
          have HHW := Aside0.mk hhw
          have HKW := Aside0.mk ((HK.out.below HB3.out).below (HW.out.mono (Nat.le_refl _)))
          have HBW := Aside0.mk (Nat.le_trans HB3.out.size HW.out.size)
          have HZL := Aside0.mk (show rest.length + (⟨(tail n long).toArray⟩ : ByteArray).size ≤ 140737488355328 by show rest.length + (tail n long).length ≤ _; rw [hTL]; have := HLEN.out; have := HSM.out; omega)
          have HZM := Aside0.mk (show long + (⟨(tail n long).toArray⟩ : ByteArray).size ≤ 9223372036854775807 by show long + (tail n long).length ≤ _; rw [hTL]; have := HLONG.out; have := HSM.out; omega)
          have HFIN : Aside0 (fin s rest long = out (eat s (rest ++ tail n long)).1) := ⟨by unfold fin; rw [HN.out]⟩
          clear htl hlt hTL hrd hhw HO hj h8
          generalize hT : tail n long = TL at *
          clear hT
          go_wp2_with (first | (go_at_call 43; (with_reducible refine (write_calls w.heap.size g2 s rest long _ ⟨TL.toArray⟩ _ HKW.out HHW.out HB0.out HBW.out HZL.out HZM.out).mono ?_); rintro e w4 ⟨rfl, ⟨rv4, hh4, hat4⟩, hb4, hk4⟩; have HH4 := Aside0.mk hh4.1; have HB4 := Aside0.mk ((HB3.out.trans (HW.out.mono HB3.out.size)).trans hb4); clear hh4 hat4 hb4 hk4 hcv; obtain ⟨hc0, hc1, hc2, hc3, hc4, hc5, hc6, hc7, hc8, hc9, hf0, hf1, hf2, hf3, hf4, hf5, hf6, hf7, hf8, hf9⟩ := blk_all10 HH4.out; clear hc8 hc9 hf0 hf1 hf2 hf3 hf4 hf5 hf6 hf7 hf8 hf9))
          have HO0 : Aside0 (w4.ownsRow w4.heap.size 5 1 (.slice none 0 0) (4 * 0) (nums .u8 (bl ((out (eat s (rest ++ TL)).1).take (4 * 0))))) := ⟨⟨rfl, .inl ⟨rfl, rfl⟩⟩⟩
          have HW0 : Aside0 (Below w4.heap.size w4 w4) := ⟨Below.refl _ _⟩
          clear hc0 hc1 hc2 hc3 hc4 hc5 hc6 hc7 d1 d3
          go_loopw [7, 51] (fun v7 v51 w' => ∃ (i : Nat) (A : Option Addr) (c : Nat), i ≤ 8 ∧ v51 = .int .i64 (i : Int) ∧ v7 = .slice A (4 * i) c ∧ Aside0 (w'.ownsRow w4.heap.size 5 1 (.slice A (4 * i) c) (4 * i) (nums .u8 (bl ((out (eat s (rest ++ TL)).1).take (4 * i))))) ∧ Aside0 (Below w4.heap.size w4 w')) (fun _ v51 _ => 8 - (intOf v51).toNat)
          case atStart => exact ⟨0, none, 0, by omega, rfl, rfl, HO0, HW0⟩
          case round =>
            clear HO0 HW0
            obtain ⟨i, A7, c7, hi, rfl, rfl, HO, HW⟩ := hrel
            by_cases h8 : i < 8
            · have d1 : decide ((i : Int) < 8) = true := decide_eq_true (by omega)
              have hix := ix8 (eat s (rest ++ TL)).1 i h8
              unfold agg8 at hix
              have htk := out_take (eat s (rest ++ TL)).1 i h8
              generalize (S8.at (eat s (rest ++ TL)).1 i) = x at *
              obtain ⟨k, hk⟩ : ∃ k, 4 * i = k := ⟨_, rfl⟩
              have hol : ((out (eat s (rest ++ TL)).1).take (4 * i)).length = k := by rw [List.length_take, out_length]; omega
              have hol2 : ((out (eat s (rest ++ TL)).1).take (4 * (i + 1))).length = 4 * (i + 1) := by rw [List.length_take, out_length]; omega
              have HAPP := Aside0.mk (show bl ((out (eat s (rest ++ TL)).1).take (4 * i)) ++ [(x.toNat : Int) / 16777216, (x.toNat : Int) / 65536 % 256, (x.toNat : Int) / 256 % 256, (x.toNat : Int) % 256] = bl ((out (eat s (rest ++ TL)).1).take (4 * (i + 1))) by rw [htk, bl_append, be4_bl])
              have HL1 := Aside0.mk (show (bl ((out (eat s (rest ++ TL)).1).take (4 * (i + 1)))).length = 4 * (i + 1) by rw [bl_length, hol2])
              have HOm : Aside0 (wr.ownsRow w4.heap.size 5 1 (.slice A7 k c7) (bl ((out (eat s (rest ++ TL)).1).take (4 * i))).length (nums .u8 (bl ((out (eat s (rest ++ TL)).1).take (4 * i))))) := ⟨by rw [bl_length, hol, ← hk]; exact HO.out⟩
              have HSM7 := Aside0.mk (show ((bl ((out (eat s (rest ++ TL)).1).take (4 * i))).length + 4) * 1 ≤ 140737488355328 by rw [bl_length, hol]; omega)
              have HI := Aside0.mk (show i + 1 ≤ 8 by omega)
              have QI := Aside0.mk (show wrap64 ((i : Int) + 1) = ((i + 1 : Nat) : Int) by unfold wrap64; omega)
              rw [hk]
              clear htk hol hol2 HO hi h8
              go_wp2_with (first | ((with_reducible refine gate_dst (N := 67) rfl ?_); refine print_append_row (w0 := w4) w4.heap.size rfl _ _ 66 5 .u8 1 rfl Tryd.underlying66 info8 (by decide) (.slice A7 k c7) (bl ((out (eat s (rest ++ TL)).1).take (4 * i))) [(x.toNat : Int) / 16777216, (x.toNat : Int) / 65536 % 256, (x.toNat : Int) / 256 % 256, (x.toNat : Int) % 256] (some ⟨wr.heap.size, 0, none⟩) 4 4 rfl rfl (HOm.out.alloc _) (own_reads' (own_lit wr wr.heap.size 5 .u8 [(x.toNat : Int) / 16777216, (x.toNat : Int) / 65536 % 256, (x.toNat : Int) / 256 % 256, (x.toNat : Int) % 256] (Nat.le_refl _) (by show 4 ≤ 9223372036854775807; decide))) (HW.out.alloc HW.out.size _) (Nat.le_trans HW.out.size (by simp)) HSM7.out ?_; intro v5 w5 hown hb5 hgr hat; rw [HAPP.out, HL1.out] at hown; obtain ⟨A5, c5, rfl, hcc5⟩ := own_shape hown; have HO5 := Aside0.mk hown; have HW5 := Aside0.mk hb5; clear hown hb5 hgr hat hcc5 HOm HW))
              clear d1 hix
              rw [QI.out]
              refine ⟨?_, by simp [intOf]; have := HI.out; omega⟩
              exact ⟨i + 1, A5, c5, HI.out, rfl, rfl, HO5, HW5⟩
            · obtain rfl : i = 8 := by omega
              have d1 : decide (((8 : Nat) : Int) < 8) = false := by decide
              have hall : (out (eat s (rest ++ TL)).1).take (4 * 8) = out (eat s (rest ++ TL)).1 := List.take_of_length_le (by rw [out_length]; decide)
              rw [hall] at HO
              have hcv : (convert 66 9 (.slice A7 (4 * 8) c7)).run Tryd.prog wr = .ok (.string ⟨(out (eat s (rest ++ TL)).1).toArray⟩) wr := by
                rw [string_of_reads Tryd.underlying66 Tryd.underlying5 Tryd.underlying9 (own_reads' HO.out), str_bl]
              clear hall
              go_wp2
              go_ret
              exact ⟨by rw [HFIN.out]; rfl, HB4.out.trans (HW.out.mono HB4.out.size)⟩
    · have hmz : m + 1 ≤ z + 1 := by omega
      have d1 : ((r : Int) != 56) = true := bne_iff_ne.mpr (by omega)
      have d2 : ((r : Int) == 56) = false := beq_eq_false_iff_ne.mpr (by omega)
      have HM1 := Aside0.mk hm1
      have HM2 := Aside0.mk hmz
      have HSM := Aside0.mk (show ((bl (padL m)).length + 1) * 1 ≤ 140737488355328 by rw [bl_length, padL_length m hm1]; omega)
      have HPL := Aside0.mk (show (bl (padL m)).length = m by rw [bl_length, padL_length m hm1])
      have HPS := Aside0.mk (padL_succ m hm1)
      have HPL1 := Aside0.mk (show (bl (padL (m + 1))).length = m + 1 by rw [bl_length, padL_length (m + 1) (by omega)])
      clear hm1 hm2 hz hn2 hnm hr h56 hmz
      have q0 : wrap64 (nm : Int) = (nm : Int) := wrapN hw
      have x1 : wrap64 ((n : Int) + (m : Int)) = (nm : Int) := by rw [q1]; exact q0
      clear hw
      have HOm : Aside0 (wr.ownsRow w3.heap.size 5 1 (.slice A4 m c4) (bl (padL m)).length (nums .u8 (bl (padL m)))) := ⟨by rw [HPL.out]; exact HO.out⟩
      clear HO
      go_wp2_with (first | ((with_reducible refine gate_dst (N := 25) rfl ?_); refine print_append_num (w0 := w3) w3.heap.size rfl _ _ 66 5 .u8 1 rfl Tryd.underlying66 info8 (by decide) (.slice A4 m c4) (bl (padL m)) 0 rfl rfl HOm.out HW.out HW.out.size HSM.out ?_; intro v5 w5 hown hb5 hgr hat; rw [HPS.out, HPL1.out] at hown; obtain ⟨A5, c5, rfl, hcc5⟩ := own_shape hown; have HO5 := Aside0.mk hown; have HW5 := Aside0.mk hb5; clear hown hb5 hgr hat hcc5 HOm HW hc8))
      clear x1 q0 q1 t1 d1 d2
      refine ⟨?_, by simp [slen]; have := HM2.out; omega⟩
      exact ⟨m + 1, A5, c5, by omega, HM2.out, rfl, HO5, HW5⟩
end Go.Proofs.YtfihbohdhcidbaaDoor.Sha
