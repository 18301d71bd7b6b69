-- Written for this claim by a program of this session.
import Derived.Test.YtdfhffhnioamhaaDoorQShaBx0
namespace Go.Proofs.YtdfhffhnioamhaaDoor.QShaB
open Go.RowKit Go.Proofs.YtdfhffhnioamhaaDoorW.PrintWords Go.Proofs.YtdfhffhnioamhaaDoorW.PrintLast Go.Proofs.YtdfhffhnioamhaaDoorW.PrintMore
attribute [local go_sem] max2_int min2_int max_two min_two max_three min_three max_four min_four   -- for this text's walks alone
set_option linter.unusedVariables false
set_option linter.unusedSimpArgs false

/-! ### sha_Sum: function 17, by hand -/
def sha_Sum.cat (l : List ByteArray) : List UInt8 := (l.map (·.data.toList)).flatten
def sha_Sum.f (l0 : List ByteArray) : Option ByteArray := if (sha_Sum.cat l0).length ≤ 1000000000000 then some ⟨(Sha.digest (sha_Sum.cat l0)).toArray⟩ else none
theorem sha_Sum.cat_take (l : List ByteArray) (i : Nat) (hi : i < l.length) : sha_Sum.cat (l.take (i + 1)) = sha_Sum.cat (l.take i) ++ (l.getD i ByteArray.empty).data.toList := by
  unfold sha_Sum.cat
  rw [List.take_succ_eq_append_getElem hi, List.map_append, List.flatten_append]
  congr 1
  simp [List.getD_eq_getElem?_getD, List.getElem?_eq_getElem hi]
theorem sha_Sum.cat_le (l : List ByteArray) (i : Nat) : (sha_Sum.cat (l.take i)).length ≤ (sha_Sum.cat l).length := by
  have h : sha_Sum.cat l = sha_Sum.cat (l.take i) ++ sha_Sum.cat (l.drop i) := by
    unfold sha_Sum.cat
    rw [← List.flatten_append, ← List.map_append, List.take_append_drop]
  rw [h, List.length_append]; omega
set_option maxHeartbeats 1000000 in
set_option maxRecDepth 100000 in
theorem sha_Sum.calls (A0 : Option Addr) (c0 : Nat) (l0 : List ByteArray) (r : ByteArray) (w : World) (hr0 : Kd.C Kd.string w A0 l0.length l0) (hc0 : l0.length ≤ c0) (hL : Laid w) (h : sha_Sum.f l0 = some r) :
    Calls Tryd.prog 17 #[.slice A0 l0.length c0] w fun e w' => e = .returned (.string r) ∧ Below w.heap.size w w' := by
  unfold sha_Sum.f at h
  by_cases hz : (sha_Sum.cat l0).length ≤ 1000000000000
  · rw [if_pos hz] at h
    obtain rfl := Option.some.inj h
    have HZ := Aside0.mk hz
    have HR := Aside0.mk hr0
    have HK : Aside0 (Sha.Consts w) := ⟨hL⟩
    have HB0 := Aside0.mk (World.block_lt_of_cell? w _ (HK.out 0 (by decide)))
    have HC := Aside0.mk hc0
    have hmax := Kd.C_max hr0
    obtain ⟨n, hn⟩ : ∃ n, l0.length = n := ⟨_, rfl⟩
    rw [hn] at hmax HR ⊢
    have HN := Aside0.mk hn
    have HMX := Aside0.mk hmax
    clear h hz hr0 hL hc0 hn hmax
    go_enter Tryd.func17, Tryd.ntmps17
    go_wp2_with (first | (go_at_call 9; (with_reducible refine (Sha.new_calls _).mono ?_); rintro e w1 ⟨⟨g, rfl, hh, hlt⟩, hb⟩; have HH := Aside0.mk hh; have HB := Aside0.mk hb; clear hh hb hlt))
    go_loopw [9] (fun v9 w' => ∃ (i : Nat) (rv : Value), i ≤ n ∧ v9 = .int .i64 (i : Int) ∧ Aside0 (Sha.HashAt w.heap.size w' g (Sha.eat Sha.init (sha_Sum.cat (l0.take i))).1 (Sha.eat Sha.init (sha_Sum.cat (l0.take i))).2 (sha_Sum.cat (l0.take i)).length rv) ∧ Aside0 (Below w.heap.size w w')) (fun v9 _ => n - (intOf v9).toNat)
    case atStart =>
      have h0 : sha_Sum.cat (l0.take 0) = [] := by simp [sha_Sum.cat]
      refine ⟨0, .slice none 0 0, Nat.zero_le _, rfl, ?_, HB⟩
      rw [h0]
      exact HH
    case round =>
      clear HH HB
      obtain ⟨i, rv, hi, rfl, HH, HB⟩ := hrel
      have hrest := Sha.eat_left _ Sha.init (sha_Sum.cat (l0.take i)) (Nat.le_refl _)
      have hle := sha_Sum.cat_le l0 i
      have HKW := Aside0.mk (HK.out.below HB.out)
      by_cases hlt : i < n
      · have d1 : decide ((i : Int) < (n : Int)) = true := decide_eq_true (by omega)
        have p1 : (i : Int) < (n : Int) := by omega
        have p0 : 0 ≤ (i : Int) := by omega
        have hl : i < l0.length := by rw [HN.out]; exact hlt
        obtain ⟨ad, cs, hA, hcl, hK, hcell⟩ := Kd.C_get (Kd.C_below HR.out HB.out) ByteArray.empty (i : Int) p0 (by rw [← HN.out] at p1 ⊢; omega)
        have hk : cs = [Value.string (l0.getD i ByteArray.empty)] := hK
        have hx : wr.cell? (ad.add i) = some (.string (l0.getD i ByteArray.empty)) := by
          have h := hcell 0 (.string (l0.getD i ByteArray.empty)) (by rw [hk]; rfl)
          simpa [Kd.string, Kd.scalar] using h
        have hct := sha_Sum.cat_take l0 i hl
        have hle2 := sha_Sum.cat_le l0 (i + 1)
        generalize l0.getD i ByteArray.empty = x at *
        have hxs : x.data.toList.length = x.size := by rw [Array.length_toList]; rfl
        rw [hct, List.length_append, hxs] at hle2
        have HW1 := Aside0.mk (show (Sha.eat Sha.init (sha_Sum.cat (l0.take i))).2.length + x.size ≤ 140737488355328 by rw [hrest]; have := HZ.out; omega)
        have HW2 := Aside0.mk (show (sha_Sum.cat (l0.take i)).length + x.size ≤ 9223372036854775807 by have := HZ.out; omega)
        have HCT : Aside0 (Sha.eat Sha.init (sha_Sum.cat (l0.take (i + 1))) = Sha.eat (Sha.eat Sha.init (sha_Sum.cat (l0.take i))).1 ((Sha.eat Sha.init (sha_Sum.cat (l0.take i))).2 ++ x.data.toList)) := ⟨by rw [hct, Sha.eat_pieces]⟩
        have HCL : Aside0 ((sha_Sum.cat (l0.take (i + 1))).length = (sha_Sum.cat (l0.take i)).length + x.size) := ⟨by rw [hct, List.length_append, hxs]⟩
        have HI := Aside0.mk (show i + 1 ≤ n by omega)
        have QI := Aside0.mk (show wrap64 ((i : Int) + 1) = ((i + 1 : Nat) : Int) by have := HMX.out; unfold wrap64; omega)
        have HBW := Aside0.mk HB.out.size
        subst hA
        clear hrest hle hlt hl hcl hK hcell hk hct hle2 hxs hi
        go_wp2_with (first | (go_at_call 12; (with_reducible refine (Sha.write_calls w.heap.size g _ _ _ rv x _ HKW.out HH.out HB0.out HBW.out HW1.out HW2.out).mono ?_); rintro e w2 ⟨rfl, ⟨rv2, hh2, hat2⟩, hb2, hk2⟩; have HH2 := Aside0.mk hh2; have HB2 := Aside0.mk (HB.out.trans hb2); clear hh2 hat2 hb2 hk2 HH HB))
        clear d1 p1 p0 hx
        rw [QI.out]
        refine ⟨?_, by simp [intOf]; have := HI.out; omega⟩
        exact ⟨i + 1, rv2, HI.out, rfl, by rw [HCT.out, HCL.out]; exact HH2, HB2⟩
      · obtain rfl : i = n := by omega
        have d1 : decide ((i : Int) < (i : Int)) = false := decide_eq_false (by omega)
        have hall : l0.take i = l0 := List.take_of_length_le (by rw [HN.out]; exact Nat.le_refl _)
        rw [hall] at HH hrest
        have HW1 := Aside0.mk (show (Sha.eat Sha.init (sha_Sum.cat l0)).2.length ≤ 1000000000000 by rw [hrest]; omega)
        have HW2 := Aside0.mk (show (sha_Sum.cat l0).length ≤ 1000000000000000000 by have := HZ.out; omega)
        clear hall hrest hle hi hlt
        go_wp2_with (first | (go_at_call 13; (with_reducible refine (Sha.sum_calls w.heap.size g _ _ _ rv _ HKW.out HH.out HW1.out HW2.out).mono ?_); rintro e w2 ⟨rfl, hb2⟩; have HB2 := Aside0.mk (HB.out.trans (hb2.mono HB.out.size)); clear hb2))
        go_ret
        exact ⟨rfl, HB2.out⟩
  · rw [if_neg hz] at h
    cases h

/-! ### sha_Hex: function 22, by hand -/
def sha_Hex.hd (n : Nat) : UInt8 := [48, 49, 50, 51, 52, 53, 54, 55, 56, 57, 97, 98, 99, 100, 101, 102].getD n 0
def sha_Hex.hex (l : List UInt8) : List UInt8 := l.flatMap fun b => [sha_Hex.hd (b.toNat / 16), sha_Hex.hd (b.toNat % 16)]
def sha_Hex.f (a0 : ByteArray) : Option ByteArray := if a0.size ≤ 1000000000000 then some ⟨(sha_Hex.hex a0.data.toList).toArray⟩ else none
theorem sha_Hex.hex_length (l : List UInt8) : (sha_Hex.hex l).length = 2 * l.length := by
  induction l with
  | nil => rfl
  | cons b l ih => simp only [sha_Hex.hex, List.flatMap_cons, List.length_append, List.length_cons, List.length_nil] at ih ⊢; omega
theorem sha_Hex.ix0 (W : World) : (Instr.index 9 (.string ⟨#[48, 49, 50, 51, 52, 53, 54, 55, 56, 57, 97, 98, 99, 100, 101, 102]⟩) (.int .u8 0)).run Tryd.prog W = .ok (.int .u8 48) W := by kernel_rfl
theorem sha_Hex.ix1 (W : World) : (Instr.index 9 (.string ⟨#[48, 49, 50, 51, 52, 53, 54, 55, 56, 57, 97, 98, 99, 100, 101, 102]⟩) (.int .u8 1)).run Tryd.prog W = .ok (.int .u8 49) W := by kernel_rfl
theorem sha_Hex.ix2 (W : World) : (Instr.index 9 (.string ⟨#[48, 49, 50, 51, 52, 53, 54, 55, 56, 57, 97, 98, 99, 100, 101, 102]⟩) (.int .u8 2)).run Tryd.prog W = .ok (.int .u8 50) W := by kernel_rfl
theorem sha_Hex.ix3 (W : World) : (Instr.index 9 (.string ⟨#[48, 49, 50, 51, 52, 53, 54, 55, 56, 57, 97, 98, 99, 100, 101, 102]⟩) (.int .u8 3)).run Tryd.prog W = .ok (.int .u8 51) W := by kernel_rfl
theorem sha_Hex.ix4 (W : World) : (Instr.index 9 (.string ⟨#[48, 49, 50, 51, 52, 53, 54, 55, 56, 57, 97, 98, 99, 100, 101, 102]⟩) (.int .u8 4)).run Tryd.prog W = .ok (.int .u8 52) W := by kernel_rfl
theorem sha_Hex.ix5 (W : World) : (Instr.index 9 (.string ⟨#[48, 49, 50, 51, 52, 53, 54, 55, 56, 57, 97, 98, 99, 100, 101, 102]⟩) (.int .u8 5)).run Tryd.prog W = .ok (.int .u8 53) W := by kernel_rfl
theorem sha_Hex.ix6 (W : World) : (Instr.index 9 (.string ⟨#[48, 49, 50, 51, 52, 53, 54, 55, 56, 57, 97, 98, 99, 100, 101, 102]⟩) (.int .u8 6)).run Tryd.prog W = .ok (.int .u8 54) W := by kernel_rfl
theorem sha_Hex.ix7 (W : World) : (Instr.index 9 (.string ⟨#[48, 49, 50, 51, 52, 53, 54, 55, 56, 57, 97, 98, 99, 100, 101, 102]⟩) (.int .u8 7)).run Tryd.prog W = .ok (.int .u8 55) W := by kernel_rfl
theorem sha_Hex.ix8 (W : World) : (Instr.index 9 (.string ⟨#[48, 49, 50, 51, 52, 53, 54, 55, 56, 57, 97, 98, 99, 100, 101, 102]⟩) (.int .u8 8)).run Tryd.prog W = .ok (.int .u8 56) W := by kernel_rfl
theorem sha_Hex.ix9 (W : World) : (Instr.index 9 (.string ⟨#[48, 49, 50, 51, 52, 53, 54, 55, 56, 57, 97, 98, 99, 100, 101, 102]⟩) (.int .u8 9)).run Tryd.prog W = .ok (.int .u8 57) W := by kernel_rfl
theorem sha_Hex.ix10 (W : World) : (Instr.index 9 (.string ⟨#[48, 49, 50, 51, 52, 53, 54, 55, 56, 57, 97, 98, 99, 100, 101, 102]⟩) (.int .u8 10)).run Tryd.prog W = .ok (.int .u8 97) W := by kernel_rfl
theorem sha_Hex.ix11 (W : World) : (Instr.index 9 (.string ⟨#[48, 49, 50, 51, 52, 53, 54, 55, 56, 57, 97, 98, 99, 100, 101, 102]⟩) (.int .u8 11)).run Tryd.prog W = .ok (.int .u8 98) W := by kernel_rfl
theorem sha_Hex.ix12 (W : World) : (Instr.index 9 (.string ⟨#[48, 49, 50, 51, 52, 53, 54, 55, 56, 57, 97, 98, 99, 100, 101, 102]⟩) (.int .u8 12)).run Tryd.prog W = .ok (.int .u8 99) W := by kernel_rfl
theorem sha_Hex.ix13 (W : World) : (Instr.index 9 (.string ⟨#[48, 49, 50, 51, 52, 53, 54, 55, 56, 57, 97, 98, 99, 100, 101, 102]⟩) (.int .u8 13)).run Tryd.prog W = .ok (.int .u8 100) W := by kernel_rfl
theorem sha_Hex.ix14 (W : World) : (Instr.index 9 (.string ⟨#[48, 49, 50, 51, 52, 53, 54, 55, 56, 57, 97, 98, 99, 100, 101, 102]⟩) (.int .u8 14)).run Tryd.prog W = .ok (.int .u8 101) W := by kernel_rfl
theorem sha_Hex.ix15 (W : World) : (Instr.index 9 (.string ⟨#[48, 49, 50, 51, 52, 53, 54, 55, 56, 57, 97, 98, 99, 100, 101, 102]⟩) (.int .u8 15)).run Tryd.prog W = .ok (.int .u8 102) W := by kernel_rfl
theorem sha_Hex.ix (k : Nat) (hk : k < 16) (W : World) : (Instr.index 9 (.string ⟨#[48, 49, 50, 51, 52, 53, 54, 55, 56, 57, 97, 98, 99, 100, 101, 102]⟩) (.int .u8 (k : Int))).run Tryd.prog W = .ok (.int .u8 (((sha_Hex.hd k).toNat : Nat) : Int)) W := by
  have h : k = 0 ∨ k = 1 ∨ k = 2 ∨ k = 3 ∨ k = 4 ∨ k = 5 ∨ k = 6 ∨ k = 7 ∨ k = 8 ∨ k = 9 ∨ k = 10 ∨ k = 11 ∨ k = 12 ∨ k = 13 ∨ k = 14 ∨ k = 15 := by omega
  rcases h with rfl | rfl | rfl | rfl | rfl | rfl | rfl | rfl | rfl | rfl | rfl | rfl | rfl | rfl | rfl | rfl
  · exact sha_Hex.ix0 W
  · exact sha_Hex.ix1 W
  · exact sha_Hex.ix2 W
  · exact sha_Hex.ix3 W
  · exact sha_Hex.ix4 W
  · exact sha_Hex.ix5 W
  · exact sha_Hex.ix6 W
  · exact sha_Hex.ix7 W
  · exact sha_Hex.ix8 W
  · exact sha_Hex.ix9 W
  · exact sha_Hex.ix10 W
  · exact sha_Hex.ix11 W
  · exact sha_Hex.ix12 W
  · exact sha_Hex.ix13 W
  · exact sha_Hex.ix14 W
  · exact sha_Hex.ix15 W
theorem sha_Hex.low_all : ∀ c : Fin 256, Go.bits .and .u8 (c.val : Int) 15 = ((c.val % 16 : Nat) : Int) := by decide +kernel
theorem sha_Hex.low (c : UInt8) : Go.bits .and .u8 ((c.toNat : Nat) : Int) 15 = ((c.toNat % 16 : Nat) : Int) := sha_Hex.low_all ⟨c.toNat, c.toNat_lt⟩
set_option maxHeartbeats 1000000 in
set_option maxRecDepth 100000 in
theorem sha_Hex.calls (a0 : ByteArray) (r : ByteArray) (w : World) (h : sha_Hex.f a0 = some r) :
    Calls Tryd.prog 22 #[.string a0] w fun e w' => e = .returned (.string r) ∧ Below w.heap.size w w' := by
  unfold sha_Hex.f at h
  by_cases hz : a0.size ≤ 1000000000000
  · rw [if_pos hz] at h
    obtain rfl := Option.some.inj h
    have HZ := Aside0.mk hz
    have HLN : Aside0 (a0.data.toList.length = a0.size) := ⟨data_length a0⟩
    have kb := fun W => print_bytes (P := Tryd.prog) 9 42 5 Tryd.underlying9 Tryd.underlying42 Tryd.underlying5 a0 W
    clear h hz
    go_enter Tryd.func22, Tryd.ntmps22
    go_wp2
    have HB0 := Aside0.mk (Sha.BldAt.new w)
    have HBL0 := Aside0.mk (below_alloc (Below.refl w.heap.size w) (.cells #[.pointer none, .slice none 0 0] 62))
    have hq : (w.alloc (.cells #[.pointer none, .slice none 0 0] 62)).heap.size = w.heap.size + 1 := by simp
    have hb := bytes_below (Below.refl (w.alloc (.cells #[.pointer none, .slice none 0 0] 62)).heap.size (w.alloc (.cells #[.pointer none, .slice none 0 0] 62))) (Nat.le_refl _) 5 a0
    have hc : ∀ j, j < a0.size → (Lib.bytesWorld (w.alloc (.cells #[.pointer none, .slice none 0 0] 62)) 5 a0).cell? ⟨w.heap.size + 1, j, none⟩ = some (.int .u8 ((((a0.data.toList.getD j 0)).toNat : Nat) : Int)) := fun j hj => by
      have h := (bytes_reads (w.alloc (.cells #[.pointer none, .slice none 0 0] 62)) 5 a0 (by have := HZ.out; omega)).2.2 (by omega)
      obtain ⟨ad, e, hx⟩ := h
      cases e
      have h2 := hx j hj
      rw [add_plain, hq] at h2
      rw [h2]
      congr 2
      exact Sha.bl_at a0.data.toList j
    have hlt : w.heap.size + 1 < (Lib.bytesWorld (w.alloc (.cells #[.pointer none, .slice none 0 0] 62)) 5 a0).heap.size ∨ a0.size = 0 := by
      by_cases hz : a0.size = 0
      · exact .inr hz
      · exact .inl (World.block_lt_of_cell? _ _ (hc 0 (by omega)))
    have HB1 := Aside0.mk (HBL0.out.trans (hb.mono HBL0.out.size))
    have HH1 : Aside0 (Sha.BldAt w.heap.size w.heap.size (.pointer none) (.slice none 0 0) [] (Lib.bytesWorld (w.alloc (.cells #[.pointer none, .slice none 0 0] 62)) 5 a0)) := by
      obtain ⟨x1, x2, x3, x4, x5⟩ := HB0.out
      exact ⟨⟨(hb.block w.heap.size (by rw [hq]; omega)).trans x1, ⟨rfl, .inl ⟨rfl, rfl⟩⟩, x3, x4, x5⟩⟩
    have HC1 := Aside0.mk hc
    have HLT := Aside0.mk hlt
    clear hb hc hlt hq HB0 HBL0 kb
    generalize Lib.bytesWorld (w.alloc (.cells #[.pointer none, .slice none 0 0] 62)) 5 a0 = W3 at *
    generalize grownCap (w.alloc (.cells #[.pointer none, .slice none 0 0] 62)) a0.size 0 5 = cap at *
    obtain ⟨n, hn⟩ : ∃ n, a0.size = n := ⟨_, rfl⟩
    rw [hn] at HZ HLN HC1 HLT ⊢
    clear hn
    go_loopw [9] (fun v9 w' => ∃ (i : Nat) (p v : Value), i ≤ n ∧ v9 = .int .i64 (i : Int) ∧ Aside0 (Sha.BldAt w.heap.size w.heap.size p v (sha_Hex.hex (a0.data.toList.take i)) w') ∧ Aside0 (v.ownBlock = none ∨ ∃ k, v.ownBlock = some k ∧ W3.heap.size ≤ k) ∧ Aside0 (∀ j, j < n → w'.cell? ⟨w.heap.size + 1, j, none⟩ = some (.int .u8 ((((a0.data.toList.getD j 0)).toNat : Nat) : Int))) ∧ Aside0 (Below w.heap.size w w') ∧ Aside0 (W3.heap.size ≤ w'.heap.size)) (fun v9 _ => n - (intOf v9).toNat)
    case atStart => exact ⟨0, _, _, Nat.zero_le _, rfl, HH1, ⟨.inl rfl⟩, HC1, HB1, ⟨Nat.le_refl _⟩⟩
    case round =>
      clear HH1 HC1 HB1
      obtain ⟨i, p, v, hi, rfl, H, HA, HC, HB, HS⟩ := hrel
      by_cases hlt : i < n
      · have d1 : decide ((i : Int) < (n : Int)) = true := decide_eq_true (by omega)
        have p1 : (i : Int) < (n : Int) := by omega
        have p0 : 0 ≤ (i : Int) := by omega
        have hx := HC.out i hlt
        have HQ := Aside0.mk (show w.heap.size + 1 < W3.heap.size by rcases HLT.out with h | h
                                                                     · exact h
                                                                     · omega)
        have htk : sha_Hex.hex (a0.data.toList.take (i + 1)) = sha_Hex.hex (a0.data.toList.take i) ++ [sha_Hex.hd ((a0.data.toList.getD i 0).toNat / 16)] ++ [sha_Hex.hd ((a0.data.toList.getD i 0).toNat % 16)] := by
          have hl : i < a0.data.toList.length := by rw [HLN.out]; exact hlt
          rw [List.take_succ_eq_append_getElem hl, List.getD_eq_getElem?_getD, List.getElem?_eq_getElem hl]
          simp [sha_Hex.hex]
        have HX := Aside0.mk (show (sha_Hex.hex (a0.data.toList.take i)).length ≤ 2000000000000 by rw [sha_Hex.hex_length, List.length_take, HLN.out]; have := HZ.out; omega)
        generalize a0.data.toList.getD i 0 = c at *
        have hc256 := c.toNat_lt
        obtain ⟨hi4, h4⟩ : ∃ x, x = c.toNat / 16 := ⟨_, rfl⟩
        obtain ⟨lo4, l4⟩ : ∃ x, x = c.toNat % 16 := ⟨_, rfl⟩
        rw [← h4, ← l4] at htk
        have s1 : ((c.toNat : Nat) : Int) / 16 = (hi4 : Int) := by omega
        have s2 : Go.bits .and .u8 ((c.toNat : Nat) : Int) 15 = (lo4 : Int) := by rw [sha_Hex.low, l4]
        have x1 := sha_Hex.ix hi4 (by omega)
        have x2 := sha_Hex.ix lo4 (by omega)
        have HTK := Aside0.mk htk
        have HI := Aside0.mk (show i + 1 ≤ n by omega)
        have QI := Aside0.mk (show wrap64 ((i : Int) + 1) = ((i + 1 : Nat) : Int) by have := HZ.out; unfold wrap64; omega)
        clear htk h4 l4 hc256 hlt hi
        go_wp2_with (first | (go_at_call 36; (with_reducible first | refine (Sha.wb_calls w.heap.size w.heap.size _ _ _ (sha_Hex.hd hi4) _ H.out HB.out.size (by have := HX.out; (try simp only [List.length_append, List.length_cons, List.length_nil]); omega)).mono ?_ | refine (Sha.wb_calls w.heap.size w.heap.size _ _ _ (sha_Hex.hd lo4) _ H.out HB.out.size (by have := HX.out; (try simp only [List.length_append, List.length_cons, List.length_nil]); omega)).mono ?_); rintro e w5 ⟨rfl, ⟨v5, h5, hat5⟩, hb5, hk5⟩; have N1 := Aside0.mk h5; have N2 := Aside0.mk (show v5.ownBlock = none ∨ ∃ k, v5.ownBlock = some k ∧ W3.heap.size ≤ k from hat5.elim (fun e => e ▸ HA.out) (fun ⟨k, e, hk⟩ => .inr ⟨k, e, Nat.le_trans HS.out hk⟩)); have N3 := Aside0.mk (show ∀ j, j < n → w5.cell? ⟨w.heap.size + 1, j, none⟩ = some (.int .u8 ((((a0.data.toList.getD j 0)).toNat : Nat) : Int)) from fun j hj => (World.cell?_of_block (a := ⟨w.heap.size + 1, j, none⟩) (hk5.2 (w.heap.size + 1) (Nat.lt_of_lt_of_le HQ.out HS.out) (by omega) (fun e => HA.out.elim (fun h => by rw [h] at e; cases e) (fun ⟨k, h, hk⟩ => by rw [h] at e; have := Option.some.inj e; have := HQ.out; omega)))).trans (HC.out j hj)); have N4 := Aside0.mk (HB.out.trans hb5); have N5 := Aside0.mk (Nat.le_trans HS.out hk5.1); clear h5 hat5 hb5 hk5 H HA HC HB HS; have H := N1; have HA := N2; have HC := N3; have HB := N4; have HS := N5; clear N1 N2 N3 N4 N5))
        clear d1 p1 p0 hx s1 s2 x1 x2
        rw [QI.out]
        refine ⟨?_, by simp [intOf]; have := HI.out; omega⟩
        exact ⟨i + 1, _, _, HI.out, rfl, by rw [HTK.out]; exact H, HA, HC, HB, HS⟩
      · obtain rfl : i = n := by omega
        have d1 : decide ((i : Int) < (i : Int)) = false := decide_eq_false (by omega)
        have hall : a0.data.toList.take i = a0.data.toList := List.take_of_length_le (by rw [HLN.out]; exact Nat.le_refl _)
        rw [hall] at H
        clear hall hi hlt
        go_wp2_with (first | (go_at_call 37; (with_reducible refine (Sha.str_calls w.heap.size w.heap.size _ _ _ _ H.out HB.out.size).mono ?_); rintro e w5 ⟨rfl, hb5⟩; have HB5 := Aside0.mk (HB.out.trans hb5); clear hb5))
        go_ret
        exact ⟨rfl, HB5.out⟩
  · rw [if_neg hz] at h
    cases h

/-! ### garretlaw02_works: function 10 -/
def garretlaw02_works.f  : Option (Bool) := (sha_Sum.f (([(⟨#[97, 98, 99]⟩ : ByteArray)] : List ByteArray))).bind fun t104 => ((sha_Hex.f t104).bind fun t105 => (if (t105.size : Int) = 64 then (if 0 ≤ 8 then (if 8 ≤ (t105.size : Int) then (if (t105.extract 0 8).toList = ([98, 97, 55, 56, 49, 54, 98, 102] : List UInt8) then ((sha_Sum.f (([(⟨#[97]⟩ : ByteArray), (⟨#[]⟩ : ByteArray), (⟨#[98, 99]⟩ : ByteArray)] : List ByteArray))).bind fun t109 => ((sha_Hex.f t109).bind fun t110 => (some (t105.toList == t110.toList)))) else (some false)) else (none)) else (none)) else (some false)))
set_option maxHeartbeats 8000000 in
set_option maxRecDepth 100000 in
theorem garretlaw02_works.calls  (r : Bool) (w : World) (hL : Laid w) (h : garretlaw02_works.f  = some r) :
    Calls Tryd.prog 10 #[] w fun e w' => e = .returned (.bool r) ∧ Below w.heap.size w w' := by
  have HLAID := Aside0.mk hL
  clear hL
  have HB := Aside0.mk (Below.refl w.heap.size w)
  have H : ((sha_Sum.f (([(⟨#[97, 98, 99]⟩ : ByteArray)] : List ByteArray))).bind fun t104 => ((sha_Hex.f t104).bind fun t105 => (if (t105.size : Int) = 64 then (if 0 ≤ 8 then (if 8 ≤ (t105.size : Int) then (if (t105.extract 0 8).toList = ([98, 97, 55, 56, 49, 54, 98, 102] : List UInt8) then ((sha_Sum.f (([(⟨#[97]⟩ : ByteArray), (⟨#[]⟩ : ByteArray), (⟨#[98, 99]⟩ : ByteArray)] : List ByteArray))).bind fun t109 => ((sha_Hex.f t109).bind fun t110 => (some (t105.toList == t110.toList)))) else (some false)) else (none)) else (none)) else (some false)))) = some r := h
  clear h
  obtain ⟨y101, hy101⟩ : ∃ y_ : List ByteArray, y_ = (([(⟨#[97, 98, 99]⟩ : ByteArray)] : List ByteArray)) := ⟨_, rfl⟩
  replace H : ((sha_Sum.f y101).bind fun t104 => ((sha_Hex.f t104).bind fun t105 => (if (t105.size : Int) = 64 then (if 0 ≤ 8 then (if 8 ≤ (t105.size : Int) then (if (t105.extract 0 8).toList = ([98, 97, 55, 56, 49, 54, 98, 102] : List UInt8) then ((sha_Sum.f (([(⟨#[97]⟩ : ByteArray), (⟨#[]⟩ : ByteArray), (⟨#[98, 99]⟩ : ByteArray)] : List ByteArray))).bind fun t109 => ((sha_Hex.f t109).bind fun t110 => (some (t105.toList == t110.toList)))) else (some false)) else (none)) else (none)) else (some false)))) = some r := by first | (rw [hy101]; with_reducible exact H) | (have H2_ := (Option.bind_some _ _).symm.trans H; rw [hy101]; with_reducible exact H2_) | (have H2_ := (Option.bind_some _ _).symm.trans H; with_reducible exact H2_) | with_reducible exact H | (rw [hy101]; exact H) | exact H
  have Ny101 := Aside0.mk hy101
  clear hy101
  replace H := Option.bind_eq_some_iff.mp H
  obtain ⟨t104, A10, H⟩ := H
  replace H : ((sha_Hex.f t104).bind fun t105 => (if (t105.size : Int) = 64 then (if 0 ≤ 8 then (if 8 ≤ (t105.size : Int) then (if (t105.extract 0 8).toList = ([98, 97, 55, 56, 49, 54, 98, 102] : List UInt8) then ((sha_Sum.f (([(⟨#[97]⟩ : ByteArray), (⟨#[]⟩ : ByteArray), (⟨#[98, 99]⟩ : ByteArray)] : List ByteArray))).bind fun t109 => ((sha_Hex.f t109).bind fun t110 => (some (t105.toList == t110.toList)))) else (some false)) else (none)) else (none)) else (some false))) = some r := H
  have A1 := Aside0.mk A10
  clear A10
  replace H := Option.bind_eq_some_iff.mp H
  obtain ⟨t105, A20, H⟩ := H
  replace H : (if (t105.size : Int) = 64 then (if 0 ≤ 8 then (if 8 ≤ (t105.size : Int) then (if (t105.extract 0 8).toList = ([98, 97, 55, 56, 49, 54, 98, 102] : List UInt8) then ((sha_Sum.f (([(⟨#[97]⟩ : ByteArray), (⟨#[]⟩ : ByteArray), (⟨#[98, 99]⟩ : ByteArray)] : List ByteArray))).bind fun t109 => ((sha_Hex.f t109).bind fun t110 => (some (t105.toList == t110.toList)))) else (some false)) else (none)) else (none)) else (some false)) = some r := H
  have A2 := Aside0.mk A20
  clear A20
  by_cases c3 : (t105.size : Int) = 64
  · rw [if_pos c3] at H
    have c3b0 : ((t105.size : Int) == 64) = true := beq_iff_eq.mpr c3
    have c3b1 : ((t105.size : Int) != 64) = false := bne_eq_false_iff_eq.mpr c3
    clear c3
    by_cases c4 : 0 ≤ 8
    · rw [if_pos c4] at H
      have c4b0 := eq_true c4
      have c4b1 : decide (0 ≤ 8) = true := decide_eq_true c4
      clear c4
      by_cases c5 : 8 ≤ (t105.size : Int)
      · rw [if_pos c5] at H
        have c5b0 := eq_true c5
        have c5b1 : decide (8 ≤ (t105.size : Int)) = true := decide_eq_true c5
        clear c5
        by_cases c6 : (t105.extract 0 8).toList = ([98, 97, 55, 56, 49, 54, 98, 102] : List UInt8)
        · rw [if_pos c6] at H
          have c6b0 : ((t105.extract 0 8).toList == ([98, 97, 55, 56, 49, 54, 98, 102] : List UInt8)) = true := beq_iff_eq.mpr c6
          have c6b1 : ((t105.extract 0 8).toList != ([98, 97, 55, 56, 49, 54, 98, 102] : List UInt8)) = false := bne_eq_false_iff_eq.mpr c6
          clear c6
          obtain ⟨y106, hy106⟩ : ∃ y_ : List ByteArray, y_ = (([(⟨#[97]⟩ : ByteArray), (⟨#[]⟩ : ByteArray), (⟨#[98, 99]⟩ : ByteArray)] : List ByteArray)) := ⟨_, rfl⟩
          replace H : ((sha_Sum.f y106).bind fun t109 => ((sha_Hex.f t109).bind fun t110 => (some (t105.toList == t110.toList)))) = some r := by first | (rw [hy106]; with_reducible exact H) | (have H2_ := (Option.bind_some _ _).symm.trans H; rw [hy106]; with_reducible exact H2_) | (have H2_ := (Option.bind_some _ _).symm.trans H; with_reducible exact H2_) | with_reducible exact H | (rw [hy106]; exact H) | exact H
          have Ny106 := Aside0.mk hy106
          clear hy106
          replace H := Option.bind_eq_some_iff.mp H
          obtain ⟨t109, A70, H⟩ := H
          replace H : ((sha_Hex.f t109).bind fun t110 => (some (t105.toList == t110.toList))) = some r := H
          have A7 := Aside0.mk A70
          clear A70
          replace H := Option.bind_eq_some_iff.mp H
          obtain ⟨t110, A80, H⟩ := H
          replace H : (some (t105.toList == t110.toList)) = some r := H
          have A8 := Aside0.mk A80
          clear A80
          obtain rfl := Option.some.inj H
          go_enter Tryd.func10, Tryd.ntmps10
          go_wp2_with (first | ((with_reducible refine gate_dst (N := 2) rfl ?_); (try (refine gate_guard (by rfl) ?_; dsimp only)); refine Kd.R_lit Kd.string _ 9 ?hg (N := 2) ?hd (xs := ([(⟨#[97, 98, 99]⟩ : ByteArray)] : List ByteArray)) (inner := [.string (⟨#[97, 98, 99]⟩ : ByteArray)]) (ok := fun _ => True) (okp := fun _ => True) ?hr ?hp (fun _ hk => hk) trivial (Below.refl _ _) (Nat.le_refl _) (by simp) ?_; (case hd => rfl); (case hg => rfl); (case hr => first | (go_simp; done) | (go_simp; rfl)); (case hp => exact (Reps.one (show Kd.M Kd.string _ _ _ (⟨#[97, 98, 99]⟩ : ByteArray) [.string (⟨#[97, 98, 99]⟩ : ByteArray)] from rfl) (Reps.none _ _))); intro v102 w9 ho10 hb hg_ hnew_; clear hg_ hnew_; (first | rw [← Ny101.out] at ho10 | (simp only [Int.reduceToNat] at ho10; rw [← Ny101.out] at ho10)); have n0_ := Aside0.mk (Kd.R_lower ho10 (below_size (by repeat (first | (with_reducible first | exact HB.out | apply below_alloc | apply pw_below_drewN | apply below_drew1) | exact HB.out)))); have n1_ := Aside0.mk (below_step (by repeat (first | (with_reducible first | exact HB.out | apply below_alloc | apply pw_below_drewN | apply below_drew1) | exact HB.out)) hb); clear HB; have HO103 := n0_; have HB := n1_; clear n0_ n1_; clear hb ho10; obtain ⟨Ao11, co11, eo11⟩ := Kd.R_slice HO103.out; subst eo11) | ((with_reducible refine gate_callee (f := 17) rfl ?_); refine goesL_ (some 3) rfl rfl Tryd.func17 (by kernel_rfl) rfl #[.slice Ao11 y101.length co11] rfl (by (try simp only [List.map_toArray, List.map_cons, List.map_nil]); first | done | rfl | (simp only [List.length_drop, List.length_take]; rfl)) ?_; (with_reducible refine (sha_Sum.calls _ _ y101 t104 _ ?side1 ?side2 ?side3 A1.out).mono ?_); (case side1 => repeat (first | exact (Kd.R_reads' HO103.out).2.2 | (with_reducible refine Kd.C_alloc ?_ _) | (with_reducible refine Kd.C_drewN ?_ _) | (with_reducible refine Kd.C_drew ?_))); (case side2 => exact (Kd.R_reads' HO103.out).2.1); (case side3 => first | exact HLAID.out | exact Laid.drewN HLAID.out _ | exact Laid.below HLAID.out (by repeat (first | (with_reducible first | exact HB.out | apply below_alloc | apply pw_below_drewN | apply below_drew1) | exact HB.out))); rintro e w12 ⟨rfl, hb⟩; refine ⟨_, rfl, ?_⟩; have n0_ := Aside0.mk (Kd.R_below (by (with_reducible repeat (first | apply Kd.R_alloc | apply Kd.R_drewN | apply Kd.R_drew)); exact HO103.out) hb); have n1_ := Aside0.mk (below_step (by repeat (first | (with_reducible first | exact HB.out | apply below_alloc | apply pw_below_drewN | apply below_drew1) | exact HB.out)) hb); clear HO103; clear HB; have HO103 := n0_; have HB := n1_; clear n0_ n1_; (try clear hb); (try clear hb2); (try clear hk); (try clear hi)) | ((with_reducible refine gate_callee (f := 22) rfl ?_); refine goesL_ (some 4) rfl rfl Tryd.func22 (by kernel_rfl) rfl #[.string t104] rfl (by (try simp only [List.map_toArray, List.map_cons, List.map_nil]); first | done | rfl | (simp only [List.length_drop, List.length_take]; rfl)) ?_; (with_reducible refine (sha_Hex.calls t104 t105 _ A2.out).mono ?_); rintro e w13 ⟨rfl, hb⟩; refine ⟨_, rfl, ?_⟩; have n0_ := Aside0.mk (Kd.R_below (by (with_reducible repeat (first | apply Kd.R_alloc | apply Kd.R_drewN | apply Kd.R_drew)); exact HO103.out) hb); have n1_ := Aside0.mk (below_step (by repeat (first | (with_reducible first | exact HB.out | apply below_alloc | apply pw_below_drewN | apply below_drew1) | exact HB.out)) hb); clear HO103; clear HB; have HO103 := n0_; have HB := n1_; clear n0_ n1_; (try clear hb); (try clear hb2); (try clear hk); (try clear hi)) | ((with_reducible refine gate_dst (N := 15) rfl ?_); (try (refine gate_guard (by rfl) ?_; dsimp only)); refine Kd.R_lit Kd.string _ 9 ?hg (N := 15) ?hd (xs := ([(⟨#[97]⟩ : ByteArray), (⟨#[]⟩ : ByteArray), (⟨#[98, 99]⟩ : ByteArray)] : List ByteArray)) (inner := [.string (⟨#[97]⟩ : ByteArray), .string (⟨#[]⟩ : ByteArray), .string (⟨#[98, 99]⟩ : ByteArray)]) (ok := fun _ => True) (okp := fun _ => True) ?hr ?hp (fun _ hk => hk) trivial (Below.refl _ _) (Nat.le_refl _) (by simp) ?_; (case hd => rfl); (case hg => rfl); (case hr => first | (go_simp; done) | (go_simp; rfl)); (case hp => exact (Reps.one (show Kd.M Kd.string _ _ _ (⟨#[97]⟩ : ByteArray) [.string (⟨#[97]⟩ : ByteArray)] from rfl) (Reps.one (show Kd.M Kd.string _ _ _ (⟨#[]⟩ : ByteArray) [.string (⟨#[]⟩ : ByteArray)] from rfl) (Reps.one (show Kd.M Kd.string _ _ _ (⟨#[98, 99]⟩ : ByteArray) [.string (⟨#[98, 99]⟩ : ByteArray)] from rfl) (Reps.none _ _))))); intro v107 w14 ho15 hb hg_ hnew_; clear hg_ hnew_; (first | rw [← Ny106.out] at ho15 | (simp only [Int.reduceToNat] at ho15; rw [← Ny106.out] at ho15)); have n0_ := Aside0.mk (Kd.R_elder' (by (with_reducible repeat (first | apply Kd.R_alloc | apply Kd.R_drewN | apply Kd.R_drew)); exact HO103.out) (Kd.R_base ho15) hb); have n1_ := Aside0.mk (Kd.R_lower (Kd.R_new' ho15 (Kd.R_lt (by (with_reducible repeat (first | apply Kd.R_alloc | apply Kd.R_drewN | apply Kd.R_drew)); exact HO103.out))) (below_size (by repeat (first | (with_reducible first | exact HB.out | apply below_alloc | apply pw_below_drewN | apply below_drew1) | exact HB.out)))); have n2_ := Aside0.mk (below_step (by repeat (first | (with_reducible first | exact HB.out | apply below_alloc | apply pw_below_drewN | apply below_drew1) | exact HB.out)) hb); clear HO103; clear HB; have HO103 := n0_; have HO108 := n1_; have HB := n2_; clear n0_ n1_ n2_; clear hb ho15; obtain ⟨Ao16, co16, eo16⟩ := Kd.R_slice HO108.out; subst eo16) | (go_at_call 17; (with_reducible refine (sha_Sum.calls _ _ y106 t109 _ ?side1 ?side2 ?side3 A7.out).mono ?_); (case side1 => repeat (first | exact (Kd.R_reads' HO108.out).2.2 | (with_reducible refine Kd.C_alloc ?_ _) | (with_reducible refine Kd.C_drewN ?_ _) | (with_reducible refine Kd.C_drew ?_))); (case side2 => exact (Kd.R_reads' HO108.out).2.1); (case side3 => first | exact HLAID.out | exact Laid.drewN HLAID.out _ | exact Laid.below HLAID.out (by repeat (first | (with_reducible first | exact HB.out | apply below_alloc | apply pw_below_drewN | apply below_drew1) | exact HB.out))); rintro e w17 ⟨rfl, hb⟩; have n0_ := Aside0.mk (Kd.R_below (by (with_reducible repeat (first | apply Kd.R_alloc | apply Kd.R_drewN | apply Kd.R_drew)); exact HO103.out) hb); have n1_ := Aside0.mk (Kd.R_below (by (with_reducible repeat (first | apply Kd.R_alloc | apply Kd.R_drewN | apply Kd.R_drew)); exact HO108.out) hb); have n2_ := Aside0.mk (below_step (by repeat (first | (with_reducible first | exact HB.out | apply below_alloc | apply pw_below_drewN | apply below_drew1) | exact HB.out)) hb); clear HO103; clear HO108; clear HB; have HO103 := n0_; have HO108 := n1_; have HB := n2_; clear n0_ n1_ n2_; (try clear hb); (try clear hb2); (try clear hk); (try clear hi)) | (go_at_call 22; (with_reducible refine (sha_Hex.calls t109 t110 _ A8.out).mono ?_); rintro e w18 ⟨rfl, hb⟩; have n0_ := Aside0.mk (Kd.R_below (by (with_reducible repeat (first | apply Kd.R_alloc | apply Kd.R_drewN | apply Kd.R_drew)); exact HO103.out) hb); have n1_ := Aside0.mk (Kd.R_below (by (with_reducible repeat (first | apply Kd.R_alloc | apply Kd.R_drewN | apply Kd.R_drew)); exact HO108.out) hb); have n2_ := Aside0.mk (below_step (by repeat (first | (with_reducible first | exact HB.out | apply below_alloc | apply pw_below_drewN | apply below_drew1) | exact HB.out)) hb); clear HO103; clear HO108; clear HB; have HO103 := n0_; have HO108 := n1_; have HB := n2_; clear n0_ n1_ n2_; (try clear hb); (try clear hb2); (try clear hk); (try clear hi)))
          go_ret
          exact ⟨by first | rfl | (simp [errW_none, errW_some] <;> rfl) | (simp [*, errW_none, errW_some] <;> rfl), by repeat (first | (with_reducible first | exact HB.out | apply below_alloc | apply pw_below_drewN | apply below_drew1) | exact HB.out)⟩
        · rw [if_neg c6] at H
          have c6b0 : ((t105.extract 0 8).toList == ([98, 97, 55, 56, 49, 54, 98, 102] : List UInt8)) = false := beq_eq_false_iff_ne.mpr c6
          have c6b1 : ((t105.extract 0 8).toList != ([98, 97, 55, 56, 49, 54, 98, 102] : List UInt8)) = true := bne_iff_ne.mpr c6
          obtain rfl := Option.some.inj H
          go_enter Tryd.func10, Tryd.ntmps10
          go_wp2_with (first | ((with_reducible refine gate_dst (N := 2) rfl ?_); (try (refine gate_guard (by rfl) ?_; dsimp only)); refine Kd.R_lit Kd.string _ 9 ?hg (N := 2) ?hd (xs := ([(⟨#[97, 98, 99]⟩ : ByteArray)] : List ByteArray)) (inner := [.string (⟨#[97, 98, 99]⟩ : ByteArray)]) (ok := fun _ => True) (okp := fun _ => True) ?hr ?hp (fun _ hk => hk) trivial (Below.refl _ _) (Nat.le_refl _) (by simp) ?_; (case hd => rfl); (case hg => rfl); (case hr => first | (go_simp; done) | (go_simp; rfl)); (case hp => exact (Reps.one (show Kd.M Kd.string _ _ _ (⟨#[97, 98, 99]⟩ : ByteArray) [.string (⟨#[97, 98, 99]⟩ : ByteArray)] from rfl) (Reps.none _ _))); intro v102 w19 ho20 hb hg_ hnew_; clear hg_ hnew_; (first | rw [← Ny101.out] at ho20 | (simp only [Int.reduceToNat] at ho20; rw [← Ny101.out] at ho20)); have n0_ := Aside0.mk (Kd.R_lower ho20 (below_size (by repeat (first | (with_reducible first | exact HB.out | apply below_alloc | apply pw_below_drewN | apply below_drew1) | exact HB.out)))); have n1_ := Aside0.mk (below_step (by repeat (first | (with_reducible first | exact HB.out | apply below_alloc | apply pw_below_drewN | apply below_drew1) | exact HB.out)) hb); clear HB; have HO103 := n0_; have HB := n1_; clear n0_ n1_; clear hb ho20; obtain ⟨Ao21, co21, eo21⟩ := Kd.R_slice HO103.out; subst eo21) | ((with_reducible refine gate_callee (f := 17) rfl ?_); refine goesL_ (some 3) rfl rfl Tryd.func17 (by kernel_rfl) rfl #[.slice Ao21 y101.length co21] rfl (by (try simp only [List.map_toArray, List.map_cons, List.map_nil]); first | done | rfl | (simp only [List.length_drop, List.length_take]; rfl)) ?_; (with_reducible refine (sha_Sum.calls _ _ y101 t104 _ ?side1 ?side2 ?side3 A1.out).mono ?_); (case side1 => repeat (first | exact (Kd.R_reads' HO103.out).2.2 | (with_reducible refine Kd.C_alloc ?_ _) | (with_reducible refine Kd.C_drewN ?_ _) | (with_reducible refine Kd.C_drew ?_))); (case side2 => exact (Kd.R_reads' HO103.out).2.1); (case side3 => first | exact HLAID.out | exact Laid.drewN HLAID.out _ | exact Laid.below HLAID.out (by repeat (first | (with_reducible first | exact HB.out | apply below_alloc | apply pw_below_drewN | apply below_drew1) | exact HB.out))); rintro e w22 ⟨rfl, hb⟩; refine ⟨_, rfl, ?_⟩; have n0_ := Aside0.mk (Kd.R_below (by (with_reducible repeat (first | apply Kd.R_alloc | apply Kd.R_drewN | apply Kd.R_drew)); exact HO103.out) hb); have n1_ := Aside0.mk (below_step (by repeat (first | (with_reducible first | exact HB.out | apply below_alloc | apply pw_below_drewN | apply below_drew1) | exact HB.out)) hb); clear HO103; clear HB; have HO103 := n0_; have HB := n1_; clear n0_ n1_; (try clear hb); (try clear hb2); (try clear hk); (try clear hi)) | ((with_reducible refine gate_callee (f := 22) rfl ?_); refine goesL_ (some 4) rfl rfl Tryd.func22 (by kernel_rfl) rfl #[.string t104] rfl (by (try simp only [List.map_toArray, List.map_cons, List.map_nil]); first | done | rfl | (simp only [List.length_drop, List.length_take]; rfl)) ?_; (with_reducible refine (sha_Hex.calls t104 t105 _ A2.out).mono ?_); rintro e w23 ⟨rfl, hb⟩; refine ⟨_, rfl, ?_⟩; have n0_ := Aside0.mk (Kd.R_below (by (with_reducible repeat (first | apply Kd.R_alloc | apply Kd.R_drewN | apply Kd.R_drew)); exact HO103.out) hb); have n1_ := Aside0.mk (below_step (by repeat (first | (with_reducible first | exact HB.out | apply below_alloc | apply pw_below_drewN | apply below_drew1) | exact HB.out)) hb); clear HO103; clear HB; have HO103 := n0_; have HB := n1_; clear n0_ n1_; (try clear hb); (try clear hb2); (try clear hk); (try clear hi)))
          go_ret
          exact ⟨by first | rfl | (simp [errW_none, errW_some] <;> rfl) | (simp [*, errW_none, errW_some] <;> rfl), by repeat (first | (with_reducible first | exact HB.out | apply below_alloc | apply pw_below_drewN | apply below_drew1) | exact HB.out)⟩
      · rw [if_neg c5] at H
        exact absurd H (by simp)
    · rw [if_neg c4] at H
      exact absurd H (by simp)
  · rw [if_neg c3] at H
    have c3b0 : ((t105.size : Int) == 64) = false := beq_eq_false_iff_ne.mpr c3
    have c3b1 : ((t105.size : Int) != 64) = true := bne_iff_ne.mpr c3
    obtain rfl := Option.some.inj H
    go_enter Tryd.func10, Tryd.ntmps10
    go_wp2_with (first | ((with_reducible refine gate_dst (N := 2) rfl ?_); (try (refine gate_guard (by rfl) ?_; dsimp only)); refine Kd.R_lit Kd.string _ 9 ?hg (N := 2) ?hd (xs := ([(⟨#[97, 98, 99]⟩ : ByteArray)] : List ByteArray)) (inner := [.string (⟨#[97, 98, 99]⟩ : ByteArray)]) (ok := fun _ => True) (okp := fun _ => True) ?hr ?hp (fun _ hk => hk) trivial (Below.refl _ _) (Nat.le_refl _) (by simp) ?_; (case hd => rfl); (case hg => rfl); (case hr => first | (go_simp; done) | (go_simp; rfl)); (case hp => exact (Reps.one (show Kd.M Kd.string _ _ _ (⟨#[97, 98, 99]⟩ : ByteArray) [.string (⟨#[97, 98, 99]⟩ : ByteArray)] from rfl) (Reps.none _ _))); intro v102 w24 ho25 hb hg_ hnew_; clear hg_ hnew_; (first | rw [← Ny101.out] at ho25 | (simp only [Int.reduceToNat] at ho25; rw [← Ny101.out] at ho25)); have n0_ := Aside0.mk (Kd.R_lower ho25 (below_size (by repeat (first | (with_reducible first | exact HB.out | apply below_alloc | apply pw_below_drewN | apply below_drew1) | exact HB.out)))); have n1_ := Aside0.mk (below_step (by repeat (first | (with_reducible first | exact HB.out | apply below_alloc | apply pw_below_drewN | apply below_drew1) | exact HB.out)) hb); clear HB; have HO103 := n0_; have HB := n1_; clear n0_ n1_; clear hb ho25; obtain ⟨Ao26, co26, eo26⟩ := Kd.R_slice HO103.out; subst eo26) | ((with_reducible refine gate_callee (f := 17) rfl ?_); refine goesL_ (some 3) rfl rfl Tryd.func17 (by kernel_rfl) rfl #[.slice Ao26 y101.length co26] rfl (by (try simp only [List.map_toArray, List.map_cons, List.map_nil]); first | done | rfl | (simp only [List.length_drop, List.length_take]; rfl)) ?_; (with_reducible refine (sha_Sum.calls _ _ y101 t104 _ ?side1 ?side2 ?side3 A1.out).mono ?_); (case side1 => repeat (first | exact (Kd.R_reads' HO103.out).2.2 | (with_reducible refine Kd.C_alloc ?_ _) | (with_reducible refine Kd.C_drewN ?_ _) | (with_reducible refine Kd.C_drew ?_))); (case side2 => exact (Kd.R_reads' HO103.out).2.1); (case side3 => first | exact HLAID.out | exact Laid.drewN HLAID.out _ | exact Laid.below HLAID.out (by repeat (first | (with_reducible first | exact HB.out | apply below_alloc | apply pw_below_drewN | apply below_drew1) | exact HB.out))); rintro e w27 ⟨rfl, hb⟩; refine ⟨_, rfl, ?_⟩; have n0_ := Aside0.mk (Kd.R_below (by (with_reducible repeat (first | apply Kd.R_alloc | apply Kd.R_drewN | apply Kd.R_drew)); exact HO103.out) hb); have n1_ := Aside0.mk (below_step (by repeat (first | (with_reducible first | exact HB.out | apply below_alloc | apply pw_below_drewN | apply below_drew1) | exact HB.out)) hb); clear HO103; clear HB; have HO103 := n0_; have HB := n1_; clear n0_ n1_; (try clear hb); (try clear hb2); (try clear hk); (try clear hi)) | ((with_reducible refine gate_callee (f := 22) rfl ?_); refine goesL_ (some 4) rfl rfl Tryd.func22 (by kernel_rfl) rfl #[.string t104] rfl (by (try simp only [List.map_toArray, List.map_cons, List.map_nil]); first | done | rfl | (simp only [List.length_drop, List.length_take]; rfl)) ?_; (with_reducible refine (sha_Hex.calls t104 t105 _ A2.out).mono ?_); rintro e w28 ⟨rfl, hb⟩; refine ⟨_, rfl, ?_⟩; have n0_ := Aside0.mk (Kd.R_below (by (with_reducible repeat (first | apply Kd.R_alloc | apply Kd.R_drewN | apply Kd.R_drew)); exact HO103.out) hb); have n1_ := Aside0.mk (below_step (by repeat (first | (with_reducible first | exact HB.out | apply below_alloc | apply pw_below_drewN | apply below_drew1) | exact HB.out)) hb); clear HO103; clear HB; have HO103 := n0_; have HB := n1_; clear n0_ n1_; (try clear hb); (try clear hb2); (try clear hk); (try clear hi)))
    go_ret
    exact ⟨by first | rfl | (simp [errW_none, errW_some] <;> rfl) | (simp [*, errW_none, errW_some] <;> rfl), by repeat (first | (with_reducible first | exact HB.out | apply below_alloc | apply pw_below_drewN | apply below_drew1) | exact HB.out)⟩

/-! ### garretbook_Among: function 20 -/
def garretbook_Among.f (a0 : Int) (a1 : Int) : Option (Int) := if a1 = 0 then (none) else (some (Int.tmod (wrap64 ((Int.tmod a0 a1) + a1)) a1))
set_option maxHeartbeats 8000000 in
set_option maxRecDepth 100000 in
theorem garretbook_Among.calls (a0 : Int) (a1 : Int) (r : Int) (w : World) (h : garretbook_Among.f a0 a1 = some r) :
    Calls Tryd.prog 20 #[.int .i64 a0, .int .i64 a1] w fun e w' => e = .returned (.int .i64 r) ∧ Drawn0 w w' := by
  have H : (if a1 = 0 then (none) else (some (Int.tmod (wrap64 ((Int.tmod a0 a1) + a1)) a1))) = some r := h
  clear h
  by_cases c3 : a1 = 0
  · rw [if_pos c3] at H
    exact absurd H (by simp)
  · rw [if_neg c3] at H
    have c3b0 : (a1 == 0) = false := beq_eq_false_iff_ne.mpr c3
    have c3b1 : (a1 != 0) = true := bne_iff_ne.mpr c3
    obtain rfl := Option.some.inj H
    go_enter Tryd.func20, Tryd.ntmps20
    go_wp2
    go_ret
    exact ⟨by first | rfl | (simp; done) | (simp [*]; done) | (simp; exact (by decide : ∀ p q : Bool, (p == q) = (!(p != q))) _ _) | (simp; exact (by decide : ∀ p q : Bool, (!(p != q)) = (p == q)) _ _), by repeat (first | exact Drawn0.refl _ | apply Drawn0.step)⟩

/-! ### sha_Unhex: function 23, by hand -/
def sha_Unhex.dig (c : UInt8) : Int := Lib.indexByte [48, 49, 50, 51, 52, 53, 54, 55, 56, 57, 97, 98, 99, 100, 101, 102] c
def sha_Unhex.byte (a b : UInt8) : UInt8 := ((sha_Unhex.dig a).toNat * 16 + (sha_Unhex.dig b).toNat).toUInt8
def sha_Unhex.go : List UInt8 → List UInt8 → ByteArray × Int
  | [], acc => (⟨acc.toArray⟩, 0)
  | [_], _ => (⟨#[]⟩, 3)
  | a :: b :: r, acc => if sha_Unhex.dig a < 0 ∨ sha_Unhex.dig b < 0 then (⟨#[]⟩, 3) else sha_Unhex.go r (acc ++ [sha_Unhex.byte a b])
def sha_Unhex.f (a0 : ByteArray) : Option (ByteArray × Int) := if a0.size ≤ 1000000000000 then some (sha_Unhex.go a0.data.toList []) else none
theorem sha_Unhex.dig_all : ∀ c : Fin 256, -1 ≤ sha_Unhex.dig c.val.toUInt8 ∧ sha_Unhex.dig c.val.toUInt8 ≤ 15 := by decide +kernel
theorem sha_Unhex.dig_range (c : UInt8) : -1 ≤ sha_Unhex.dig c ∧ sha_Unhex.dig c ≤ 15 := by
  have h := sha_Unhex.dig_all ⟨c.toNat, c.toNat_lt⟩
  have e : c.toNat.toUInt8 = c := by simp
  simpa [e] using h
theorem sha_Unhex.ixb (c : UInt8) (w : World) : Calls Tryd.prog 38 #[.string ⟨#[48, 49, 50, 51, 52, 53, 54, 55, 56, 57, 97, 98, 99, 100, 101, 102]⟩, .int .u8 ((c.toNat : Nat) : Int)] w fun e w' => e = .returned (.int .i64 (sha_Unhex.dig c)) ∧ w' = w := by
  have h := Tryd.strings_IndexByte ⟨#[48, 49, 50, 51, 52, 53, 54, 55, 56, 57, 97, 98, 99, 100, 101, 102]⟩ ((c.toNat : Nat) : Int) w
  have e : ((c.toNat : Nat) : Int).toNat.toUInt8 = c := by simp
  rw [e] at h
  exact h
theorem sha_Unhex.at_ (s : ByteArray) (i : Nat) (c : UInt8) (hi : i < s.size) (hc : s.data.toList.getD i 0 = c) (W : World) : (Instr.index 9 (.string s) (.int .i64 (i : Int))).run Tryd.prog W = .ok (.int .u8 ((c.toNat : Nat) : Int)) W := by
  rw [run_index_string W 9 s .i64 (i : Int) Tryd.underlying9, dif_pos ⟨by omega, by omega⟩]
  subst hc
  congr 3
  rw [List.getD_eq_getElem?_getD, List.getElem?_eq_getElem (show i < s.data.toList.length by rw [data_length]; exact hi)]
  rfl
theorem sha_Unhex.or_all : ∀ x y : Fin 16, Go.bits .or .i64 (wrap64 ((x.val : Int) * 16)) (y.val : Int) % 256 = (((x.val * 16 + y.val).toUInt8.toNat : Nat) : Int) := by decide +kernel
theorem sha_Unhex.or_told (x y : Nat) (hx : x ≤ 15) (hy : y ≤ 15) : Go.bits .or .i64 (wrap64 ((x : Int) * 16)) (y : Int) % 256 = (((x * 16 + y).toUInt8.toNat : Nat) : Int) := sha_Unhex.or_all ⟨x, by omega⟩ ⟨y, by omega⟩
theorem sha_Unhex.bld_drewN {B b : Nat} {p v : Value} {l : List UInt8} {w : World} (h : Sha.BldAt B b p v l w) (n : Nat) : Sha.BldAt B b p v l (w.drewN n) := by
  obtain ⟨h1, h2, h3, h4, h5⟩ := h
  exact ⟨h1, own_move h2 (fun k hk => rfl), h3, h4, h5⟩
set_option maxHeartbeats 1000000 in
set_option maxRecDepth 100000 in
theorem sha_Unhex.calls (a0 : ByteArray) (r1 : ByteArray) (r2 : Int) (w : World) (h : sha_Unhex.f a0 = some (r1, r2)) :
    Calls Tryd.prog 23 #[.string a0] w fun e w' => e = .returned (.tuple #[.string r1, .int .i64 r2]) ∧ Below w.heap.size w w' := by
  unfold sha_Unhex.f at h
  by_cases hz : a0.size ≤ 1000000000000
  · rw [if_pos hz] at h
    have HGO := Aside0.mk (Option.some.inj h)
    have HZ := Aside0.mk hz
    have HLN : Aside0 (a0.data.toList.length = a0.size) := ⟨data_length a0⟩
    clear h
    obtain ⟨n, hn⟩ : ∃ n, a0.size = n := ⟨_, rfl⟩
    have HN := Aside0.mk hn
    rw [hn] at HZ HLN hz
    clear hz
    go_enter Tryd.func23, Tryd.ntmps23
    go_wp2
    have HB0 := Aside0.mk (Sha.BldAt.new w)
    have HBL0 := Aside0.mk (below_alloc (Below.refl w.heap.size w) (.cells #[.pointer none, .slice none 0 0] 62))
    clear hn
    generalize w.alloc (.cells #[.pointer none, .slice none 0 0] 62) = W3 at *
    go_loopw [5] (fun v5 w' => ∃ (i : Nat) (p v : Value) (acc : List UInt8), i ≤ n ∧ v5 = .int .i64 (i : Int) ∧ Aside0 (sha_Unhex.go (a0.data.toList.drop i) acc = (r1, r2)) ∧ Aside0 (acc.length ≤ i) ∧ Aside0 (Sha.BldAt w.heap.size w.heap.size p v acc w') ∧ Aside0 (Below w.heap.size w w')) (fun v5 _ => n - (intOf v5).toNat)
    case atStart => exact ⟨0, _, _, [], Nat.zero_le _, rfl, HGO, ⟨Nat.le_refl _⟩, HB0, HBL0⟩
    case round =>
      clear HB0 HBL0 HGO
      obtain ⟨i, p, v, acc, hi, rfl, HE, HA, H, HB⟩ := hrel
      by_cases hlt : i < n
      · have d1 : decide ((i : Int) < (n : Int)) = true := decide_eq_true (by omega)
        have hl : i < a0.data.toList.length := by rw [HLN.out]; exact hlt
        have he := HE.out
        rw [List.drop_eq_getElem_cons hl] at he
        have ha : a0.data.toList.getD i 0 = a0.data.toList[i] := by rw [List.getD_eq_getElem?_getD, List.getElem?_eq_getElem hl]; rfl
        rw [← ha] at he
        obtain ⟨a, hA⟩ : ∃ a, a0.data.toList.getD i 0 = a := ⟨_, rfl⟩
        rw [hA] at he
        by_cases hend : i + 1 = n
        · have d2 : (wrap64 ((i : Int) + 1) == (n : Int)) = true := by
            rw [show wrap64 ((i : Int) + 1) = (n : Int) by have := HZ.out; unfold wrap64; omega]
            exact beq_self_eq_true _
          rw [List.drop_eq_nil_of_le (by rw [HLN.out]; omega)] at he
          simp only [sha_Unhex.go] at he
          have HE2 := Aside0.mk he
          have HN2 := HN.out
          clear he hA ha hl HE hi
          go_wp2
          go_ret2
          obtain ⟨rfl, rfl⟩ := Prod.mk.inj HE2.out
          exact ⟨rfl, HB.out⟩
        · have d2 : (wrap64 ((i : Int) + 1) == (n : Int)) = false := beq_eq_false_iff_ne.mpr (by have := HZ.out; unfold wrap64; omega)
          have hl1 : i + 1 < a0.data.toList.length := by rw [HLN.out]; omega
          rw [List.drop_eq_getElem_cons hl1] at he
          have hb : a0.data.toList.getD (i + 1) 0 = a0.data.toList[i + 1] := by rw [List.getD_eq_getElem?_getD, List.getElem?_eq_getElem hl1]; rfl
          rw [← hb] at he
          obtain ⟨b, hB'⟩ : ∃ b, a0.data.toList.getD (i + 1) 0 = b := ⟨_, rfl⟩
          rw [hB'] at he
          simp only [sha_Unhex.go] at he
          have hx1 := sha_Unhex.at_ a0 i a (by rw [HN.out]; exact hlt) hA
          have hx2 := sha_Unhex.at_ a0 (i + 1) b (by rw [HN.out]; omega) hB'
          obtain ⟨i1, hi1⟩ : ∃ i1, i + 1 = i1 := ⟨_, rfl⟩
          have HW : Aside0 (IntKind.i64.wrap ((i : Int) + 1) = (i1 : Int)) := ⟨by
            have := HZ.out
            rw [IntWalk.i64_in _ (by omega)]; omega⟩
          rw [hi1] at hx2 he hl1
          have hra := sha_Unhex.dig_range a
          have hrb := sha_Unhex.dig_range b
          have H1 := Aside0.mk (sha_Unhex.ixb a)
          have H2 := Aside0.mk (sha_Unhex.ixb b)
          have HBY := Aside0.mk (show sha_Unhex.byte a b = ((sha_Unhex.dig a).toNat * 16 + (sha_Unhex.dig b).toNat).toUInt8 from rfl)
          generalize sha_Unhex.dig a = x at *
          generalize sha_Unhex.dig b = y at *
          have HI2 := Aside0.mk (show i + 2 ≤ n by omega)
          have HI1 := Aside0.mk hi1
          clear hi hl hl1 hA ha hb hB' HE hi1 hend
          by_cases hneg : x < 0 ∨ y < 0
          · rw [if_pos hneg] at he
            have HE2 := Aside0.mk he
            clear he
            have dn : decide (min x y < 0) = true := decide_eq_true (by omega)
            by_cases hyx : y < x
            · have dn2 : decide (y < 0) = true := decide_eq_true (by omega)
              clear hneg hra hrb
              have HN2 := HN.out
              go_upto_region 7 with fail
              have hw := HW.out
              go_quiet (first | (go_at_call 38; exact Calls.quiet_of_same (H1.out _)) | (go_at_call 38; exact Calls.quiet_of_same (H2.out _)))
              clear hw
              go_wp2
              go_ret2
              obtain ⟨rfl, rfl⟩ := Prod.mk.inj HE2.out
              exact ⟨rfl, pw_below_drewN HB.out _⟩
            · have dn2 : decide (x < 0) = true := decide_eq_true (by omega)
              clear hneg hra hrb
              have HN2 := HN.out
              go_upto_region 7 with fail
              have hw := HW.out
              go_quiet (first | (go_at_call 38; exact Calls.quiet_of_same (H1.out _)) | (go_at_call 38; exact Calls.quiet_of_same (H2.out _)))
              clear hw
              go_wp2
              go_ret2
              obtain ⟨rfl, rfl⟩ := Prod.mk.inj HE2.out
              exact ⟨rfl, pw_below_drewN HB.out _⟩
          · rw [if_neg hneg] at he
            have HE2 := Aside0.mk he
            clear he
            obtain ⟨xn, hxn⟩ : ∃ xn : Nat, x = (xn : Int) := ⟨x.toNat, by omega⟩
            obtain ⟨yn, hyn⟩ : ∃ yn : Nat, y = (yn : Int) := ⟨y.toNat, by omega⟩
            subst hxn hyn
            have HX := Aside0.mk (show xn ≤ 15 by omega)
            have HY := Aside0.mk (show yn ≤ 15 by omega)
            clear hneg hra hrb
            have HBY2 : Aside0 (sha_Unhex.byte a b = (xn * 16 + yn).toUInt8) := ⟨by rw [HBY.out]; simp⟩
            clear HBY
            have dn : decide (min (xn : Int) (yn : Int) < 0) = false := decide_eq_false (by omega)
            by_cases hyx : (yn : Int) < (xn : Int)
            · have dn2 : decide ((yn : Int) < 0) = false := decide_eq_false (by omega)
              have HN2 := HN.out
              have QO := Aside0.mk (sha_Unhex.or_told xn yn HX.out HY.out)
              go_upto_region 7 with fail
              have hw := HW.out
              go_quiet (first | (go_at_call 38; exact Calls.quiet_of_same (H1.out _)) | (go_at_call 38; exact Calls.quiet_of_same (H2.out _)))
              clear hw
              go_upto_region 10 with fail
              have HQ := Aside0.mk (sha_Unhex.bld_drewN H.out nq)
              have HQB := Aside0.mk (pw_below_drewN HB.out nq)
              clear H HB
              generalize wr.drewN nq = wq at *
              go_wp2_with (first | (go_at_call 36; rw [QO.out]; (with_reducible refine (Sha.wb_calls w.heap.size w.heap.size _ _ _ (xn * 16 + yn).toUInt8 _ HQ.out HQB.out.size (by have := HA.out; have := HZ.out; have := HI2.out; omega)).mono ?_); rintro e w5 ⟨rfl, ⟨v5, h5, hat5⟩, hb5, hk5⟩; have N1 := Aside0.mk h5; have N4 := Aside0.mk (HQB.out.trans hb5); clear h5 hat5 hb5 hk5 HQ HQB))
              have QI : wrap64 ((i : Int) + 2) = ((i + 2 : Nat) : Int) := by have := HZ.out; have := HI2.out; clear d1 d2 dn hlt; unfold wrap64; omega
              rw [QI]
              have e2 := HE2.out
              rw [← HI1.out, HBY2.out] at e2
              refine ⟨⟨i + 2, _, _, _, HI2.out, rfl, ⟨e2⟩, ⟨by have := HA.out; rw [List.length_append, List.length_singleton]; omega⟩, N1, N4⟩, ?_⟩
              clear d1 d2 dn QI
              simp only [intOf]
              omega
            · have dn2 : decide ((xn : Int) < 0) = false := decide_eq_false (by omega)
              have HN2 := HN.out
              have QO := Aside0.mk (sha_Unhex.or_told xn yn HX.out HY.out)
              go_upto_region 7 with fail
              have hw := HW.out
              go_quiet (first | (go_at_call 38; exact Calls.quiet_of_same (H1.out _)) | (go_at_call 38; exact Calls.quiet_of_same (H2.out _)))
              clear hw
              go_upto_region 10 with fail
              have HQ := Aside0.mk (sha_Unhex.bld_drewN H.out nq)
              have HQB := Aside0.mk (pw_below_drewN HB.out nq)
              clear H HB
              generalize wr.drewN nq = wq at *
              go_wp2_with (first | (go_at_call 36; rw [QO.out]; (with_reducible refine (Sha.wb_calls w.heap.size w.heap.size _ _ _ (xn * 16 + yn).toUInt8 _ HQ.out HQB.out.size (by have := HA.out; have := HZ.out; have := HI2.out; omega)).mono ?_); rintro e w5 ⟨rfl, ⟨v5, h5, hat5⟩, hb5, hk5⟩; have N1 := Aside0.mk h5; have N4 := Aside0.mk (HQB.out.trans hb5); clear h5 hat5 hb5 hk5 HQ HQB))
              have QI : wrap64 ((i : Int) + 2) = ((i + 2 : Nat) : Int) := by have := HZ.out; have := HI2.out; clear d1 d2 dn hlt; unfold wrap64; omega
              rw [QI]
              have e2 := HE2.out
              rw [← HI1.out, HBY2.out] at e2
              refine ⟨⟨i + 2, _, _, _, HI2.out, rfl, ⟨e2⟩, ⟨by have := HA.out; rw [List.length_append, List.length_singleton]; omega⟩, N1, N4⟩, ?_⟩
              clear d1 d2 dn QI
              simp only [intOf]
              omega
      · obtain rfl : i = n := by omega
        have d1 : decide ((i : Int) < (i : Int)) = false := decide_eq_false (by omega)
        have he := HE.out
        rw [List.drop_eq_nil_of_le (by rw [HLN.out]; exact Nat.le_refl _)] at he
        simp only [sha_Unhex.go] at he
        have HE2 := Aside0.mk he
        have HN2 := HN.out
        clear hi hlt he HE
        go_wp2_with (first | (go_at_call 37; (with_reducible refine (Sha.str_calls w.heap.size w.heap.size _ _ _ _ H.out HB.out.size).mono ?_); rintro e w5 ⟨rfl, hb5⟩; have HB5 := Aside0.mk (HB.out.trans hb5); clear hb5))
        go_ret2
        obtain ⟨rfl, rfl⟩ := Prod.mk.inj HE2.out
        exact ⟨rfl, HB5.out⟩
  · rw [if_neg hz] at h
    cases h

/-! ### garretlaw02_ShaBack: function 5, by hand -/
def garretlaw02_ShaBack.f (a0 : ByteArray) (a1 : Int) (a2 : Int) : Option Bool := if ((Lit.int .i64 a1).wf = true ∧ (Lit.int .u8 a2).wf = true) ∧ garretlaw02_works.f = some true then some true else none
def garretlaw02_ShaBack.right (c : UInt8) : Bool := (decide (48 ≤ c.toNat) && decide (c.toNat ≤ 57)) || (decide (97 ≤ c.toNat) && decide (c.toNat ≤ 102))
theorem garretlaw02_ShaBack.dig_all : ∀ c : Fin 256, (garretlaw02_ShaBack.right c.val.toUInt8 = decide (0 ≤ sha_Unhex.dig c.val.toUInt8)) ∧ (0 ≤ sha_Unhex.dig c.val.toUInt8 → sha_Hex.hd (sha_Unhex.dig c.val.toUInt8).toNat = c.val.toUInt8) ∧ (sha_Unhex.byte (sha_Hex.hd (c.val / 16)) (sha_Hex.hd (c.val % 16)) = c.val.toUInt8) := by decide +kernel
theorem garretlaw02_ShaBack.hd_all : ∀ k : Fin 16, sha_Unhex.dig (sha_Hex.hd k.val) = (k.val : Int) := by decide +kernel
theorem garretlaw02_ShaBack.right_dig (c : UInt8) : garretlaw02_ShaBack.right c = decide (0 ≤ sha_Unhex.dig c) := by
  have h := (garretlaw02_ShaBack.dig_all ⟨c.toNat, c.toNat_lt⟩).1
  have e : c.toNat.toUInt8 = c := by simp
  simpa [e] using h
theorem garretlaw02_ShaBack.hd_dig (c : UInt8) (hc : 0 ≤ sha_Unhex.dig c) : sha_Hex.hd (sha_Unhex.dig c).toNat = c := by
  have h := (garretlaw02_ShaBack.dig_all ⟨c.toNat, c.toNat_lt⟩).2.1
  have e : c.toNat.toUInt8 = c := by simp
  simp only [e] at h
  exact h hc
theorem garretlaw02_ShaBack.byte_hd (c : UInt8) : sha_Unhex.byte (sha_Hex.hd (c.toNat / 16)) (sha_Hex.hd (c.toNat % 16)) = c := by
  have h := (garretlaw02_ShaBack.dig_all ⟨c.toNat, c.toNat_lt⟩).2.2
  have e : c.toNat.toUInt8 = c := by simp
  simpa [e] using h
def garretlaw02_ShaBack.unh : List UInt8 → List UInt8
  | a :: b :: r => sha_Unhex.byte a b :: garretlaw02_ShaBack.unh r
  | _ => []
theorem garretlaw02_ShaBack.go_ok : ∀ (l acc : List UInt8), l.length % 2 = 0 → (∀ x ∈ l, 0 ≤ sha_Unhex.dig x) → sha_Unhex.go l acc = (⟨(acc ++ garretlaw02_ShaBack.unh l).toArray⟩, 0)
  | [], acc, _, _ => by simp only [sha_Unhex.go, garretlaw02_ShaBack.unh, List.append_nil]
  | [_], _, h, _ => by simp at h
  | a :: b :: r, acc, h, hd => by
    have ha := hd a (by simp)
    have hb := hd b (by simp)
    simp only [sha_Unhex.go, garretlaw02_ShaBack.unh]
    rw [if_neg (show ¬ (sha_Unhex.dig a < 0 ∨ sha_Unhex.dig b < 0) by omega), garretlaw02_ShaBack.go_ok r _ (by simp only [List.length_cons] at h; omega) (fun x hx => hd x (by simp [hx])), List.append_assoc, List.singleton_append]
theorem garretlaw02_ShaBack.go_bad : ∀ (l acc : List UInt8), l.length % 2 = 0 → (∃ x ∈ l, sha_Unhex.dig x < 0) → sha_Unhex.go l acc = (⟨#[]⟩, 3)
  | [], acc, _, h => by obtain ⟨x, hx, _⟩ := h; cases hx
  | [_], _, h, _ => by simp at h
  | a :: b :: r, acc, h, hd => by
    simp only [sha_Unhex.go]
    by_cases c : sha_Unhex.dig a < 0 ∨ sha_Unhex.dig b < 0
    · rw [if_pos c]
    · rw [if_neg c]
      refine garretlaw02_ShaBack.go_bad r _ (by simp only [List.length_cons] at h; omega) ?_
      obtain ⟨x, hx, hn⟩ := hd
      rcases List.mem_cons.1 hx with rfl | hx
      · exact absurd (Or.inl hn) c
      · rcases List.mem_cons.1 hx with rfl | hx
        · exact absurd (Or.inr hn) c
        · exact ⟨x, hx, hn⟩
theorem garretlaw02_ShaBack.go_odd : ∀ (l acc : List UInt8), l.length % 2 = 1 → sha_Unhex.go l acc = (⟨#[]⟩, 3)
  | [], _, h => by simp at h
  | [_], _, _ => rfl
  | a :: b :: r, acc, h => by
    simp only [sha_Unhex.go]
    by_cases c : sha_Unhex.dig a < 0 ∨ sha_Unhex.dig b < 0
    · rw [if_pos c]
    · rw [if_neg c]
      exact garretlaw02_ShaBack.go_odd r _ (by simp only [List.length_cons] at h; omega)
theorem garretlaw02_ShaBack.hex_cons (c : UInt8) (r : List UInt8) : sha_Hex.hex (c :: r) = sha_Hex.hd (c.toNat / 16) :: sha_Hex.hd (c.toNat % 16) :: sha_Hex.hex r := by simp [sha_Hex.hex]
theorem garretlaw02_ShaBack.unh_hex : ∀ l : List UInt8, garretlaw02_ShaBack.unh (sha_Hex.hex l) = l
  | [] => rfl
  | c :: r => by rw [garretlaw02_ShaBack.hex_cons, garretlaw02_ShaBack.unh, garretlaw02_ShaBack.byte_hd, garretlaw02_ShaBack.unh_hex r]
theorem garretlaw02_ShaBack.hex_digits : ∀ (l : List UInt8), ∀ x ∈ sha_Hex.hex l, 0 ≤ sha_Unhex.dig x
  | [], x, h => by simp [sha_Hex.hex] at h
  | c :: r, x, h => by
    have hc := c.toNat_lt
    rw [garretlaw02_ShaBack.hex_cons] at h
    rcases List.mem_cons.1 h with rfl | h
    · have := garretlaw02_ShaBack.hd_all ⟨c.toNat / 16, by omega⟩
      simp only at this
      omega
    · rcases List.mem_cons.1 h with rfl | h
      · have := garretlaw02_ShaBack.hd_all ⟨c.toNat % 16, by omega⟩
        simp only at this
        omega
      · exact garretlaw02_ShaBack.hex_digits r x h
theorem garretlaw02_ShaBack.byte_nat (a b : UInt8) (ha : 0 ≤ sha_Unhex.dig a) (hb : 0 ≤ sha_Unhex.dig b) : (sha_Unhex.byte a b).toNat = (sha_Unhex.dig a).toNat * 16 + (sha_Unhex.dig b).toNat := by
  have ra := sha_Unhex.dig_range a
  have rb := sha_Unhex.dig_range b
  unfold sha_Unhex.byte
  rw [show ∀ n : Nat, n.toUInt8.toNat = n % 256 from fun n => UInt8.toNat_ofNat']
  omega
theorem garretlaw02_ShaBack.hex_unh : ∀ l : List UInt8, l.length % 2 = 0 → (∀ x ∈ l, 0 ≤ sha_Unhex.dig x) → sha_Hex.hex (garretlaw02_ShaBack.unh l) = l
  | [], _, _ => rfl
  | [_], h, _ => by simp at h
  | a :: b :: r, h, hd => by
    have ha := hd a (by simp)
    have hb := hd b (by simp)
    have ra := sha_Unhex.dig_range a
    have rb := sha_Unhex.dig_range b
    have hn := garretlaw02_ShaBack.byte_nat a b ha hb
    rw [garretlaw02_ShaBack.unh, garretlaw02_ShaBack.hex_cons, hn, show ((sha_Unhex.dig a).toNat * 16 + (sha_Unhex.dig b).toNat) / 16 = (sha_Unhex.dig a).toNat by omega, show ((sha_Unhex.dig a).toNat * 16 + (sha_Unhex.dig b).toNat) % 16 = (sha_Unhex.dig b).toNat by omega, garretlaw02_ShaBack.hd_dig a ha, garretlaw02_ShaBack.hd_dig b hb,
      garretlaw02_ShaBack.hex_unh r (by simp only [List.length_cons] at h; omega) (fun x hx => hd x (by simp [hx]))]
/-- What the document's three readings answer. -/
theorem garretlaw02_ShaBack.back (l : List UInt8) : sha_Unhex.go (sha_Hex.hex l) [] = (⟨l.toArray⟩, 0) := by
  rw [garretlaw02_ShaBack.go_ok _ _ (by rw [sha_Hex.hex_length]; omega) (garretlaw02_ShaBack.hex_digits l), List.nil_append, garretlaw02_ShaBack.unh_hex]
theorem garretlaw02_ShaBack.short (l : List UInt8) (h : l ≠ []) : sha_Unhex.go ((sha_Hex.hex l).drop 1) [] = (⟨#[]⟩, 3) := by
  refine garretlaw02_ShaBack.go_odd _ _ ?_
  rw [List.length_drop, sha_Hex.hex_length]
  have : l.length ≠ 0 := fun z => h (List.length_eq_zero_iff.1 z)
  omega
theorem garretlaw02_ShaBack.set_right (l : List UInt8) (i : Nat) (c : UInt8) (hc : garretlaw02_ShaBack.right c = true) :
    sha_Unhex.go ((sha_Hex.hex l).set i c) [] = (⟨(garretlaw02_ShaBack.unh ((sha_Hex.hex l).set i c)).toArray⟩, 0) ∧ sha_Hex.hex (garretlaw02_ShaBack.unh ((sha_Hex.hex l).set i c)) = (sha_Hex.hex l).set i c := by
  rw [garretlaw02_ShaBack.right_dig] at hc
  have hc := of_decide_eq_true hc
  have hd : ∀ x ∈ (sha_Hex.hex l).set i c, 0 ≤ sha_Unhex.dig x := fun x hx => by
    rcases List.mem_or_eq_of_mem_set hx with h | rfl
    · exact garretlaw02_ShaBack.hex_digits l x h
    · exact hc
  have he : ((sha_Hex.hex l).set i c).length % 2 = 0 := by rw [List.length_set, sha_Hex.hex_length]; omega
  exact ⟨by rw [garretlaw02_ShaBack.go_ok _ _ he hd, List.nil_append], garretlaw02_ShaBack.hex_unh _ he hd⟩
theorem garretlaw02_ShaBack.set_wrong (l : List UInt8) (i : Nat) (c : UInt8) (hi : i < (sha_Hex.hex l).length) (hc : garretlaw02_ShaBack.right c = false) : sha_Unhex.go ((sha_Hex.hex l).set i c) [] = (⟨#[]⟩, 3) := by
  rw [garretlaw02_ShaBack.right_dig] at hc
  have hc := of_decide_eq_false hc
  refine garretlaw02_ShaBack.go_bad _ _ (by rw [List.length_set, sha_Hex.hex_length]; omega) ⟨c, ?_, by omega⟩
  exact List.mem_set hi c
theorem garretlaw02_ShaBack.among (a n : Int) (h0 : -9223372036854775808 ≤ a) (h1 : a ≤ 9223372036854775807) (hn : 0 < n) (hn2 : n ≤ 1000000) : ∃ r : Nat, garretbook_Among.f a n = some (r : Int) ∧ (r : Int) < n := by
  unfold garretbook_Among.f
  rw [if_neg (by omega)]
  have hA : -n < Int.tmod a n ∧ Int.tmod a n < n := by
    have := Int.tmod_lt_of_pos a hn
    have h2 := Int.tmod_lt_of_pos (-a) hn
    rw [Int.neg_tmod] at h2
    omega
  have hw : wrap64 (Int.tmod a n + n) = Int.tmod a n + n := by
    have := hA.1; have := hA.2
    generalize Int.tmod a n = q at *
    unfold wrap64; omega
  rw [hw]
  have g0 : 0 ≤ Int.tmod (Int.tmod a n + n) n := Int.tmod_nonneg _ (by omega)
  have g1 : Int.tmod (Int.tmod a n + n) n < n := Int.tmod_lt_of_pos _ hn
  generalize Int.tmod (Int.tmod a n + n) n = q at *
  exact ⟨q.toNat, by show some q = some ((q.toNat : Nat) : Int); rw [Int.toNat_of_nonneg g0], by omega⟩
theorem garretlaw02_ShaBack.wf_i64 {a : Int} (h : (Lit.int .i64 a).wf = true) : -9223372036854775808 ≤ a ∧ a ≤ 9223372036854775807 := by
  simp [Lit.wf, IntKind.min, IntKind.max, IntKind.signed, IntKind.bits] at h
  omega
theorem garretlaw02_ShaBack.wf_u8 {a : Int} (h : (Lit.int .u8 a).wf = true) : ∃ c : UInt8, a = ((c.toNat : Nat) : Int) := by
  simp [Lit.wf, IntKind.min, IntKind.max, IntKind.signed, IntKind.bits] at h
  refine ⟨a.toNat.toUInt8, ?_⟩
  rw [show a.toNat.toUInt8.toNat = a.toNat % 256 from UInt8.toNat_ofNat']
  omega
theorem garretlaw02_ShaBack.conv (W : World) (g n cap : Nat) (l : List UInt8) (hl : l.length = n) (hn : n ≤ 9223372036854775807) (hc : ∀ j, j < n → W.cell? ⟨g, j, none⟩ = some (.int .u8 (((l.getD j 0).toNat : Nat) : Int))) : (convert 42 9 (.slice (some ⟨g, 0, none⟩) n cap)).run Tryd.prog W = .ok (.string ⟨l.toArray⟩) W := by
  have h : ReadsInt W .u8 (some ⟨g, 0, none⟩) n (Sha.bl l) := ⟨by rw [Sha.bl_length, hl], hn, fun _ => ⟨_, rfl, fun j hj => by rw [add_plain, hc j hj, Sha.bl_at]⟩⟩
  rw [string_of_reads Tryd.underlying42 Tryd.underlying5 Tryd.underlying9 h, Sha.str_bl]
theorem garretlaw02_ShaBack.thaw (W : World) (t : TypeId) (s : ByteArray) (r : Nat) (hr : r < s.size) : (Lib.bytesWorld W t s).frozen? ⟨W.heap.size, r, none⟩ = false := by
  have hz : s.size ≤ (Lib.bytesCells W t s).size := by simp [Lib.bytesCells]; try exact Nat.le_add_right _ _
  simp only [World.frozen?, Lib.bytesWorld_at_new]
  simp
  try omega
theorem garretlaw02_ShaBack.set_get (L : List UInt8) (r j : Nat) (c : UInt8) (hj : j < L.length) : (L.set r c).getD j 0 = if j = r then c else L.getD j 0 := by
  rw [List.getD_eq_getElem?_getD, List.getD_eq_getElem?_getD, List.getElem?_set]
  by_cases h : r = j
  · subst h; simp [hj]
  · rw [if_neg h, if_neg (fun e => h e.symm)]
theorem garretlaw02_ShaBack.third (l : List UInt8) (i : Nat) (c : UInt8) (hi : i < (sha_Hex.hex l).length) (hz : l.length ≤ 1000) : ∃ (t : ByteArray) (g : Int), sha_Unhex.f ⟨((sha_Hex.hex l).set i c).toArray⟩ = some (t, g) ∧ ((g = 0 ∧ garretlaw02_ShaBack.right c = true ∧ sha_Hex.f t = some ⟨((sha_Hex.hex l).set i c).toArray⟩) ∨ (g = 3 ∧ garretlaw02_ShaBack.right c = false)) := by
  have hl := sha_Hex.hex_length l
  have hs : (⟨((sha_Hex.hex l).set i c).toArray⟩ : ByteArray).size ≤ 1000000000000 := by
    show ((sha_Hex.hex l).set i c).length ≤ _
    rw [List.length_set]; omega
  unfold sha_Unhex.f
  rw [if_pos hs]
  cases hc : garretlaw02_ShaBack.right c with
  | true =>
    obtain ⟨h1, h2⟩ := garretlaw02_ShaBack.set_right l i c hc
    refine ⟨_, _, congrArg some h1, .inl ⟨rfl, rfl, ?_⟩⟩
    have hn := congrArg List.length h2
    rw [sha_Hex.hex_length, List.length_set, hl] at hn
    unfold sha_Hex.f
    rw [if_pos (by show (garretlaw02_ShaBack.unh ((sha_Hex.hex l).set i c)).length ≤ _; omega)]
    show some (⟨(sha_Hex.hex (garretlaw02_ShaBack.unh ((sha_Hex.hex l).set i c))).toArray⟩ : ByteArray) = _
    rw [h2]
  | false => exact ⟨_, _, congrArg some (garretlaw02_ShaBack.set_wrong l i c hi hc), .inr ⟨rfl, rfl⟩⟩
def garretlaw02_ShaBack.S (w : World) (g n : Nat) (M : List UInt8) (w' : World) : Prop := Below w.heap.size w w' ∧ g < w'.heap.size ∧ ∀ j, j < n → w'.cell? ⟨g, j, none⟩ = some (.int .u8 (((M.getD j 0).toNat : Nat) : Int))
theorem garretlaw02_ShaBack.S_step {w X Y : World} {g n : Nat} {M : List UInt8} (h : garretlaw02_ShaBack.S w g n M X) (hb : Below X.heap.size X Y) : garretlaw02_ShaBack.S w g n M Y :=
  ⟨below_step h.1 hb, Nat.lt_of_lt_of_le h.2.1 hb.size, fun j hj => (World.cell?_of_block (a := ⟨g, j, none⟩) (hb.block g h.2.1)).trans (h.2.2 j hj)⟩
theorem garretlaw02_ShaBack.S_drew {w X : World} {g n : Nat} {M : List UInt8} (h : garretlaw02_ShaBack.S w g n M X) : garretlaw02_ShaBack.S w g n M X.drew := ⟨below_drew1 h.1, h.2.1, h.2.2⟩
theorem garretlaw02_ShaBack.S_drewN {w X : World} {g n : Nat} {M : List UInt8} (h : garretlaw02_ShaBack.S w g n M X) (m : Nat) : garretlaw02_ShaBack.S w g n M (X.drewN m) := ⟨pw_below_drewN h.1 m, h.2.1, h.2.2⟩
theorem garretlaw02_ShaBack.step' {w X Y : World} (hb : Below X.heap.size X Y) (h : Below w.heap.size w X) : Below w.heap.size w Y := below_step h hb
set_option maxHeartbeats 2000000 in
set_option maxRecDepth 100000 in
theorem garretlaw02_ShaBack.calls (a0 : ByteArray) (a1 : Int) (a2 : Int) (r : Bool) (w : World) (hL : Laid w) (h : garretlaw02_ShaBack.f a0 a1 a2 = some r) :
    Calls Tryd.prog 5 #[.string a0, .int .i64 a1, .int .u8 a2] w fun e w' => e = .returned (.bool r) ∧ Below w.heap.size w w' := by
  unfold garretlaw02_ShaBack.f at h
  by_cases hq : ((Lit.int .i64 a1).wf = true ∧ (Lit.int .u8 a2).wf = true) ∧ garretlaw02_works.f = some true
  · rw [if_pos hq] at h
    obtain rfl := Option.some.inj h
    obtain ⟨c, rfl⟩ := garretlaw02_ShaBack.wf_u8 hq.1.2
    have HWF := garretlaw02_ShaBack.wf_i64 hq.1.1
    have HWK := Aside0.mk hq.2
    have HLAID := Aside0.mk hL
    clear h hq hL
    by_cases hz : (a0.size : Int) > 1000
    · have d1 : decide (1000 < (a0.size : Int)) = true := decide_eq_true hz
      clear hz HWF
      go_enter Tryd.func5, Tryd.ntmps5
      go_wp2_with (first
        | (go_at_call 10; (with_reducible refine (garretlaw02_works.calls true _ HLAID.out HWK.out).mono ?_); rintro e w2 ⟨rfl, hb⟩; have HB := Aside0.mk hb; clear hb))
      go_ret
      exact ⟨rfl, HB.out⟩
    · have d1 : decide (1000 < (a0.size : Int)) = false := decide_eq_false hz
      by_cases he : a0.size = 0
      · obtain rfl : a0 = ⟨#[]⟩ := by
          obtain ⟨⟨l⟩⟩ := a0
          have : l.length = 0 := he
          obtain rfl := List.eq_nil_of_length_eq_zero this
          rfl
        clear hz he HWF d1
        go_enter Tryd.func5, Tryd.ntmps5
        go_wp2_with (first
          | (go_at_call 10; (with_reducible refine (garretlaw02_works.calls true _ HLAID.out HWK.out).mono ?_); rintro e w2 ⟨rfl, hb⟩; have HB := Aside0.mk hb; clear hb))
        go_ret
        exact ⟨rfl, HB.out⟩
      · have HZ := Aside0.mk (show a0.size ≤ 1000 by omega)
        have HE := Aside0.mk (show 0 < a0.size by omega)
        have hne : a0.data.toList ≠ [] := fun e => he (by rw [← data_length, e]; rfl)
        have d3 : (a0.toList == ([] : List UInt8)) = false := by rw [ByteArray.toList_eq]; exact beq_eq_false_iff_ne.2 hne
        have d4 : a0.toList.isEmpty = false := by rw [ByteArray.toList_eq]; exact List.isEmpty_eq_false_iff.2 hne
        clear hne
        have hdl : a0.data.toList.length = a0.size := data_length a0
        have HLL := Aside0.mk (show (sha_Hex.hex a0.data.toList).length = 2 * a0.size by rw [sha_Hex.hex_length, hdl])
        have HX1 : Aside0 (sha_Hex.f a0 = some ⟨(sha_Hex.hex a0.data.toList).toArray⟩) := ⟨by unfold sha_Hex.f; rw [if_pos (by have := HZ.out; omega)]⟩
        have HU1 : Aside0 (sha_Unhex.f ⟨(sha_Hex.hex a0.data.toList).toArray⟩ = some (a0, 0)) := ⟨by
          unfold sha_Unhex.f
          rw [if_pos (by show (sha_Hex.hex a0.data.toList).length ≤ _; rw [HLL.out]; have := HZ.out; omega)]
          exact congrArg some (garretlaw02_ShaBack.back a0.data.toList)⟩
        have HU2 : Aside0 (sha_Unhex.f ((⟨(sha_Hex.hex a0.data.toList).toArray⟩ : ByteArray).extract 1 (⟨(sha_Hex.hex a0.data.toList).toArray⟩ : ByteArray).size) = some (⟨#[]⟩, 3)) := ⟨by
          have hl : ((⟨(sha_Hex.hex a0.data.toList).toArray⟩ : ByteArray).extract 1 (⟨(sha_Hex.hex a0.data.toList).toArray⟩ : ByteArray).size).data.toList = (sha_Hex.hex a0.data.toList).drop 1 := by
            rw [ByteArray.data_extract, Array.toList_extract, List.extract_eq_take_drop]
            show ((sha_Hex.hex a0.data.toList).drop 1).take ((sha_Hex.hex a0.data.toList).length - 1) = _
            exact List.take_of_length_le (by rw [List.length_drop]; exact Nat.le_refl _)
          unfold sha_Unhex.f
          rw [if_pos (by rw [ByteArray.size_extract]; show min (sha_Hex.hex a0.data.toList).length (sha_Hex.hex a0.data.toList).length - 1 ≤ _; rw [HLL.out]; have := HZ.out; omega), hl]
          exact congrArg some (garretlaw02_ShaBack.short a0.data.toList (fun e => by rw [e] at hdl; exact he hdl.symm))⟩
        obtain ⟨q, hq, hq2⟩ := garretlaw02_ShaBack.among a1 ((2 * a0.size : Nat) : Int) HWF.1 HWF.2 (by omega) (by have := HZ.out; omega)
        have HAM := Aside0.mk hq
        obtain ⟨t, gc, h3, hor⟩ := garretlaw02_ShaBack.third a0.data.toList q c (by rw [HLL.out]; omega) (by rw [hdl]; exact HZ.out)
        have HU3 := Aside0.mk h3
        have HOR := Aside0.mk hor
        have HSZ : Aside0 ((⟨(sha_Hex.hex a0.data.toList).toArray⟩ : ByteArray).size = 2 * a0.size) := ⟨HLL.out⟩
        clear h3 hor hq HWF hz
        generalize sha_Hex.hex a0.data.toList = L at *
        have kb := fun W => print_bytes (P := Tryd.prog) 9 42 5 Tryd.underlying9 Tryd.underlying42 Tryd.underlying5 ⟨L.toArray⟩ W
        obtain ⟨n, hn⟩ : ∃ n, 2 * a0.size = n := ⟨_, rfl⟩
        have HN := Aside0.mk (show 0 < n ∧ n ≤ 2000 by have := HZ.out; have := HE.out; omega)
        rw [hn] at hq2 HLL HAM HSZ
        have p1 : (1 : Int) ≤ (n : Int) := by have := HN.out; omega
        have p2 : (0 : Int) ≤ (q : Int) := by omega
        have HQ := Aside0.mk (show q < n by omega)
        have hsz := HSZ.out
        rw [hsz] at kb HU2
        clear hn hdl he
        go_enter Tryd.func5, Tryd.ntmps5
        go_upto_region 8 with (first
          | (go_at_call 10; (with_reducible refine (garretlaw02_works.calls true _ HLAID.out HWK.out).mono ?_); rintro e w2 ⟨rfl, hb⟩; have HB := Aside0.mk hb; clear hb)
          | (go_at_call 22; (with_reducible refine (sha_Hex.calls a0 ⟨L.toArray⟩ _ HX1.out).mono ?_); rintro e w3 ⟨rfl, hb⟩; have n0_ := Aside0.mk (below_step HB.out hb); clear HB hb; have HB := n0_; clear n0_)
          | (go_at_call 23; (first | (with_reducible refine (sha_Unhex.calls ⟨L.toArray⟩ a0 0 _ HU1.out).mono ?_) | ((try rw [hsz]); with_reducible refine (sha_Unhex.calls _ ⟨#[]⟩ 3 _ HU2.out).mono ?_)); rintro e w3 ⟨rfl, hb⟩; have n0_ := Aside0.mk (below_step HB.out hb); clear HB hb; have HB := n0_; clear n0_))
        go_upto_region 9 with fail
        have hc4 : ∀ j, j < n → (Lib.bytesWorld w3 5 ⟨L.toArray⟩).cell? ⟨w3.heap.size, j, none⟩ = some (.int .u8 (((L.getD j 0).toNat : Nat) : Int)) := fun j hj => Lib.bytesWorld_cell w3 5 ⟨L.toArray⟩ j (by rw [hsz]; exact hj)
        have hf4 := garretlaw02_ShaBack.thaw w3 5 ⟨L.toArray⟩ q (by rw [hsz]; exact HQ.out)
        have hb4 := bytes_below HB.out HB.out.size 5 ⟨L.toArray⟩
        have hg4 : w3.heap.size < (Lib.bytesWorld w3 5 ⟨L.toArray⟩).heap.size := by rw [Lib.bytesWorld_size]; omega
        have HG := Aside0.mk HB.out.size
        have HC4 := Aside0.mk hc4
        have HF4 := Aside0.mk hf4
        have HB4 := Aside0.mk hb4
        have HG4 := Aside0.mk hg4
        clear hc4 hf4 hb4 hg4 kb HB hsz
        generalize Lib.bytesWorld w3 5 ⟨L.toArray⟩ = W4 at *
        generalize grownCap w3 n 0 5 = cap at *
        generalize w3.heap.size = g at *
        go_upto_region 10 with (first
          | (go_at_call 20; (with_reducible refine (garretbook_Among.calls a1 (n : Int) (q : Int) _ HAM.out).mono ?_); rintro e w5 ⟨rfl, hd⟩; have HB5 := Aside0.mk (below_step HB4.out hd.below); have HC5 : Aside0 (∀ j, j < n → w5.cell? ⟨g, j, none⟩ = some (.int .u8 (((L.getD j 0).toNat : Nat) : Int))) := ⟨fun j hj => (World.cell?_of_block (a := ⟨g, j, none⟩) (hd.below.block g HG4.out)).trans (HC4.out j hj)⟩; have hf5 : w5.frozen? ⟨g, q, none⟩ = false := (World.frozen?_of_block (a := ⟨g, q, none⟩) (hd.below.block g HG4.out)).trans HF4.out; have hc5 := HC5.out q HQ.out; have HG5 := Aside0.mk (Nat.lt_of_lt_of_le HG4.out hd.below.size); clear hd HB4 HC4 HF4 HG4))
        clear hf5
        have HB6 := Aside0.mk (Below.setCell HB5.out (p := ⟨g, q, none⟩) HG.out (.int .u8 ((c.toNat : Nat) : Int)))
        have HC6 : Aside0 (∀ j, j < n → (w5.setCell ⟨g, q, none⟩ (.int .u8 ((c.toNat : Nat) : Int))).cell? ⟨g, j, none⟩ = some (.int .u8 ((((L.set q c).getD j 0).toNat : Nat) : Int))) := ⟨fun j hj => by
          rw [garretlaw02_ShaBack.set_get L q j c (by rw [HLL.out]; exact hj)]
          by_cases e : j = q
          · subst e
            rw [if_pos rfl]
            exact World.cell?_setCell_same w5 _ _ hc5
          · rw [if_neg e, World.cell?_setCell_other w5 ⟨g, q, none⟩ ⟨g, j, none⟩ _ (fun z => e (by injection z with _ z2 _; exact z2.symm))]
            exact HC5.out j hj⟩
        have HG6 : Aside0 (g < (w5.setCell ⟨g, q, none⟩ (.int .u8 ((c.toNat : Nat) : Int))).heap.size) := ⟨by simpa [World.setCell] using HG5.out⟩
        clear HB5 HC5 hc5 HG5 p2
        generalize w5.setCell ⟨g, q, none⟩ (.int .u8 ((c.toNat : Nat) : Int)) = W6 at *
        have hLs : (L.set q c).length = n := by rw [List.length_set]; exact HLL.out
        generalize L.set q c = M at *
        have HLM := Aside0.mk hLs
        have hcv := garretlaw02_ShaBack.conv W6 g n cap M hLs (by have := HN.out; omega) HC6.out
        clear hLs
        go_upto_region 11 with (first
          | (go_at_call 23; (with_reducible refine (sha_Unhex.calls ⟨M.toArray⟩ t gc _ HU3.out).mono ?_); rintro e w7 ⟨rfl, hb⟩; have HB7 := Aside0.mk (below_step HB6.out hb); have HC7 : Aside0 (∀ j, j < n → w7.cell? ⟨g, j, none⟩ = some (.int .u8 (((M.getD j 0).toNat : Nat) : Int))) := ⟨fun j hj => (World.cell?_of_block (a := ⟨g, j, none⟩) (hb.block g HG6.out)).trans (HC6.out j hj)⟩; have HG7 := Aside0.mk (Nat.lt_of_lt_of_le HG6.out hb.size); clear hb hcv HB6 HC6 HG6))
        have hcv := garretlaw02_ShaBack.conv w7 g n cap M HLM.out (by have := HN.out; omega) HC7.out
        rcases HOR.out with ⟨rfl, hr, hx⟩ | ⟨rfl, hr⟩
        · have HX3 := Aside0.mk hx
          have hcs : (48 ≤ c.toNat ∧ c.toNat ≤ 57) ∨ (97 ≤ c.toNat ∧ c.toNat ≤ 102) := by
            simp only [garretlaw02_ShaBack.right, Bool.or_eq_true, Bool.and_eq_true, decide_eq_true_eq] at hr
            exact hr
          clear hx hr HOR HU1 HU2 HU3 HX1
          rcases hcs with hcs | hcs
          · have e1 : decide (48 ≤ ((c.toNat : Nat) : Int)) = true := decide_eq_true (by omega)
            have e2 : decide (((c.toNat : Nat) : Int) ≤ 57) = true := decide_eq_true (by omega)
            go_upto_region 12 with fail
            have hS : garretlaw02_ShaBack.S w g n M w7 := ⟨HB7.out, HG7.out, HC7.out⟩
            have hcvS : ∀ W, garretlaw02_ShaBack.S w g n M W → (convert 42 9 (.slice (some ⟨g, 0, none⟩) n cap)).run Tryd.prog W = .ok (.string ⟨M.toArray⟩) W := fun W h => garretlaw02_ShaBack.conv W g n cap M HLM.out (by have := HN.out; omega) h.2.2
            clear hcv HB7 HC7 HG7 hq2 d1 d3 d4 p1 HQ HZ HE HSZ HAM HLL HG HLAID HWK HLM HN hcs
            go_region_held3 (fun w' => garretlaw02_ShaBack.S w g n M w') (first | assumption | exact garretlaw02_ShaBack.S_step (by assumption) (by assumption) | exact garretlaw02_ShaBack.S_drew (by assumption) | exact garretlaw02_ShaBack.S_drewN (by assumption) _)
              (first | (go_at_call 22; (with_reducible refine (sha_Hex.calls t ⟨M.toArray⟩ _ HX3.out).mono ?_); rintro e w8 ⟨rfl, hb⟩))
            all_goals go_wp2
            all_goals go_ret
            all_goals exact ⟨rfl, (show garretlaw02_ShaBack.S w g n M _ by assumption).1⟩
          · have e1 : decide (48 ≤ ((c.toNat : Nat) : Int)) = true := decide_eq_true (by omega)
            have e2 : decide (((c.toNat : Nat) : Int) ≤ 57) = false := decide_eq_false (by omega)
            have e3 : decide (97 ≤ ((c.toNat : Nat) : Int)) = true := decide_eq_true (by omega)
            have e4 : decide (((c.toNat : Nat) : Int) ≤ 102) = true := decide_eq_true (by omega)
            go_upto_region 12 with fail
            have hS : garretlaw02_ShaBack.S w g n M w7 := ⟨HB7.out, HG7.out, HC7.out⟩
            have hcvS : ∀ W, garretlaw02_ShaBack.S w g n M W → (convert 42 9 (.slice (some ⟨g, 0, none⟩) n cap)).run Tryd.prog W = .ok (.string ⟨M.toArray⟩) W := fun W h => garretlaw02_ShaBack.conv W g n cap M HLM.out (by have := HN.out; omega) h.2.2
            clear hcv HB7 HC7 HG7 hq2 d1 d3 d4 p1 HQ HZ HE HSZ HAM HLL HG HLAID HWK HLM HN hcs
            go_region_held3 (fun w' => garretlaw02_ShaBack.S w g n M w') (first | assumption | exact garretlaw02_ShaBack.S_step (by assumption) (by assumption) | exact garretlaw02_ShaBack.S_drew (by assumption) | exact garretlaw02_ShaBack.S_drewN (by assumption) _)
              (first | (go_at_call 22; (with_reducible refine (sha_Hex.calls t ⟨M.toArray⟩ _ HX3.out).mono ?_); rintro e w8 ⟨rfl, hb⟩))
            all_goals go_wp2
            all_goals go_ret
            all_goals exact ⟨rfl, (show garretlaw02_ShaBack.S w g n M _ by assumption).1⟩
        · have hcs : c.toNat < 48 ∨ (57 < c.toNat ∧ c.toNat < 97) ∨ 102 < c.toNat := by
            rcases Nat.lt_or_ge c.toNat 48 with h | h
            · exact .inl h
            · refine .inr ?_
              rcases Nat.lt_or_ge 102 c.toNat with h2 | h2
              · exact .inr h2
              · refine .inl ⟨?_, ?_⟩
                · refine Nat.lt_of_not_le (fun h3 => ?_)
                  rw [garretlaw02_ShaBack.right, decide_eq_true h, decide_eq_true h3] at hr
                  cases hr
                · refine Nat.lt_of_not_le (fun h3 => ?_)
                  rw [garretlaw02_ShaBack.right, decide_eq_true h3, decide_eq_true h2] at hr
                  simp at hr
          clear hr HOR HU1 HU2 HU3 HX1
          rcases hcs with hcs | hcs | hcs
          · have e1 : decide (48 ≤ ((c.toNat : Nat) : Int)) = false := decide_eq_false (by omega)
            have e3 : decide (97 ≤ ((c.toNat : Nat) : Int)) = false := decide_eq_false (by omega)
            go_upto_region 12 with fail
            go_quiet (fail)
            go_wp2
            go_ret
            exact ⟨rfl, pw_below_drewN HB7.out _⟩
          · have e1 : decide (48 ≤ ((c.toNat : Nat) : Int)) = true := decide_eq_true (by omega)
            have e2 : decide (((c.toNat : Nat) : Int) ≤ 57) = false := decide_eq_false (by omega)
            have e3 : decide (97 ≤ ((c.toNat : Nat) : Int)) = false := decide_eq_false (by omega)
            go_upto_region 12 with fail
            go_quiet (fail)
            go_wp2
            go_ret
            exact ⟨rfl, pw_below_drewN HB7.out _⟩
          · have e1 : decide (48 ≤ ((c.toNat : Nat) : Int)) = true := decide_eq_true (by omega)
            have e2 : decide (((c.toNat : Nat) : Int) ≤ 57) = false := decide_eq_false (by omega)
            have e3 : decide (97 ≤ ((c.toNat : Nat) : Int)) = true := decide_eq_true (by omega)
            have e4 : decide (((c.toNat : Nat) : Int) ≤ 102) = false := decide_eq_false (by omega)
            go_upto_region 12 with fail
            go_quiet (fail)
            go_wp2
            go_ret
            exact ⟨rfl, pw_below_drewN HB7.out _⟩
  · rw [if_neg hq] at h
    cases h

def garretlaw02_ShaBack.Pure : Prop := ∀ (a0 : ByteArray) (a1 : Int) (a2 : Int), (a0.size ≤ 140737488351232) → ((Lit.int .i64 a1).wf = true) → ((Lit.int .u8 a2).wf = true) → garretlaw02_ShaBack.f a0 a1 a2 = some true
theorem garretlaw02_ShaBack.walk (P : garretlaw02_ShaBack.Pure) (a0 : ByteArray) (a1 : Int) (a2 : Int) (w : World)  (o0 : (a0.size ≤ 140737488351232)) (o1 : ((Lit.int .i64 a1).wf = true)) (o2 : ((Lit.int .u8 a2).wf = true)) (hL : Laid w) :
    Calls Tryd.prog 5 #[.string a0, .int .i64 a1, .int .u8 a2] w fun e w' => e = .returned (.bool true) ∧ Below w.heap.size w w' := by
  have h := P a0 a1 a2 o0 o1 o2
  refine (garretlaw02_ShaBack.calls a0 a1 a2 true w hL h).mono ?_
  rintro e w' ⟨rfl, hd⟩
  exact ⟨rfl, hd⟩
end Go.Proofs.YtdfhffhnioamhaaDoor.QShaB
