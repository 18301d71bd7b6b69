-- Written for this claim by a program of this session.
import Derived.Test.YtdfhffhnioamhaaDoorQShaCx0
namespace Go.Proofs.YtdfhffhnioamhaaDoor.QShaC
open Go.RowKit Go.Proofs.YtdfhffhnioamhaaDoorW.PrintWords Go.Proofs.YtdfhffhnioamhaaDoorW.PrintLast Go.Proofs.YtdfhffhnioamhaaDoorW.PrintMore
attribute [local go_sem] max2_int min2_int max_two min_two max_three min_three max_four min_four   -- for this text's walks alone
set_option linter.unusedVariables false
set_option linter.unusedSimpArgs false

/-! ### sha_Sum: function 17, by hand -/
def sha_Sum.cat (l : List ByteArray) : List UInt8 := (l.map (·.data.toList)).flatten
def sha_Sum.f (l0 : List ByteArray) : Option ByteArray := if (sha_Sum.cat l0).length ≤ 1000000000000 then some ⟨(Sha.digest (sha_Sum.cat l0)).toArray⟩ else none
theorem sha_Sum.cat_take (l : List ByteArray) (i : Nat) (hi : i < l.length) : sha_Sum.cat (l.take (i + 1)) = sha_Sum.cat (l.take i) ++ (l.getD i ByteArray.empty).data.toList := by
  unfold sha_Sum.cat
  rw [List.take_succ_eq_append_getElem hi, List.map_append, List.flatten_append]
  congr 1
  simp [List.getD_eq_getElem?_getD, List.getElem?_eq_getElem hi]
theorem sha_Sum.cat_le (l : List ByteArray) (i : Nat) : (sha_Sum.cat (l.take i)).length ≤ (sha_Sum.cat l).length := by
  have h : sha_Sum.cat l = sha_Sum.cat (l.take i) ++ sha_Sum.cat (l.drop i) := by
    unfold sha_Sum.cat
    rw [← List.flatten_append, ← List.map_append, List.take_append_drop]
  rw [h, List.length_append]; omega
set_option maxHeartbeats 1000000 in
set_option maxRecDepth 100000 in
theorem sha_Sum.calls (A0 : Option Addr) (c0 : Nat) (l0 : List ByteArray) (r : ByteArray) (w : World) (hr0 : Kd.C Kd.string w A0 l0.length l0) (hc0 : l0.length ≤ c0) (hL : Laid w) (h : sha_Sum.f l0 = some r) :
    Calls Tryd.prog 17 #[.slice A0 l0.length c0] w fun e w' => e = .returned (.string r) ∧ Below w.heap.size w w' := by
  unfold sha_Sum.f at h
  by_cases hz : (sha_Sum.cat l0).length ≤ 1000000000000
  · rw [if_pos hz] at h
    obtain rfl := Option.some.inj h
    have HZ := Aside0.mk hz
    have HR := Aside0.mk hr0
    have HK : Aside0 (Sha.Consts w) := ⟨hL⟩
    have HB0 := Aside0.mk (World.block_lt_of_cell? w _ (HK.out 0 (by decide)))
    have HC := Aside0.mk hc0
    have hmax := Kd.C_max hr0
    obtain ⟨n, hn⟩ : ∃ n, l0.length = n := ⟨_, rfl⟩
    rw [hn] at hmax HR ⊢
    have HN := Aside0.mk hn
    have HMX := Aside0.mk hmax
    clear h hz hr0 hL hc0 hn hmax
    go_enter Tryd.func17, Tryd.ntmps17
    go_wp2_with (first | (go_at_call 9; (with_reducible refine (Sha.new_calls _).mono ?_); rintro e w1 ⟨⟨g, rfl, hh, hlt⟩, hb⟩; have HH := Aside0.mk hh; have HB := Aside0.mk hb; clear hh hb hlt))
    go_loopw [9] (fun v9 w' => ∃ (i : Nat) (rv : Value), i ≤ n ∧ v9 = .int .i64 (i : Int) ∧ Aside0 (Sha.HashAt w.heap.size w' g (Sha.eat Sha.init (sha_Sum.cat (l0.take i))).1 (Sha.eat Sha.init (sha_Sum.cat (l0.take i))).2 (sha_Sum.cat (l0.take i)).length rv) ∧ Aside0 (Below w.heap.size w w')) (fun v9 _ => n - (intOf v9).toNat)
    case atStart =>
      have h0 : sha_Sum.cat (l0.take 0) = [] := by simp [sha_Sum.cat]
      refine ⟨0, .slice none 0 0, Nat.zero_le _, rfl, ?_, HB⟩
      rw [h0]
      exact HH
    case round =>
      clear HH HB
      obtain ⟨i, rv, hi, rfl, HH, HB⟩ := hrel
      have hrest := Sha.eat_left _ Sha.init (sha_Sum.cat (l0.take i)) (Nat.le_refl _)
      have hle := sha_Sum.cat_le l0 i
      have HKW := Aside0.mk (HK.out.below HB.out)
      by_cases hlt : i < n
      · have d1 : decide ((i : Int) < (n : Int)) = true := decide_eq_true (by omega)
        have p1 : (i : Int) < (n : Int) := by omega
        have p0 : 0 ≤ (i : Int) := by omega
        have hl : i < l0.length := by rw [HN.out]; exact hlt
        obtain ⟨ad, cs, hA, hcl, hK, hcell⟩ := Kd.C_get (Kd.C_below HR.out HB.out) ByteArray.empty (i : Int) p0 (by rw [← HN.out] at p1 ⊢; omega)
        have hk : cs = [Value.string (l0.getD i ByteArray.empty)] := hK
        have hx : wr.cell? (ad.add i) = some (.string (l0.getD i ByteArray.empty)) := by
          have h := hcell 0 (.string (l0.getD i ByteArray.empty)) (by rw [hk]; rfl)
          simpa [Kd.string, Kd.scalar] using h
        have hct := sha_Sum.cat_take l0 i hl
        have hle2 := sha_Sum.cat_le l0 (i + 1)
        generalize l0.getD i ByteArray.empty = x at *
        have hxs : x.data.toList.length = x.size := by rw [Array.length_toList]; rfl
        rw [hct, List.length_append, hxs] at hle2
        have HW1 := Aside0.mk (show (Sha.eat Sha.init (sha_Sum.cat (l0.take i))).2.length + x.size ≤ 140737488355328 by rw [hrest]; have := HZ.out; omega)
        have HW2 := Aside0.mk (show (sha_Sum.cat (l0.take i)).length + x.size ≤ 9223372036854775807 by have := HZ.out; omega)
        have HCT : Aside0 (Sha.eat Sha.init (sha_Sum.cat (l0.take (i + 1))) = Sha.eat (Sha.eat Sha.init (sha_Sum.cat (l0.take i))).1 ((Sha.eat Sha.init (sha_Sum.cat (l0.take i))).2 ++ x.data.toList)) := ⟨by rw [hct, Sha.eat_pieces]⟩
        have HCL : Aside0 ((sha_Sum.cat (l0.take (i + 1))).length = (sha_Sum.cat (l0.take i)).length + x.size) := ⟨by rw [hct, List.length_append, hxs]⟩
        have HI := Aside0.mk (show i + 1 ≤ n by omega)
        have QI := Aside0.mk (show wrap64 ((i : Int) + 1) = ((i + 1 : Nat) : Int) by have := HMX.out; unfold wrap64; omega)
        have HBW := Aside0.mk HB.out.size
        subst hA
        clear hrest hle hlt hl hcl hK hcell hk hct hle2 hxs hi
        go_wp2_with (first | (go_at_call 12; (with_reducible refine (Sha.write_calls w.heap.size g _ _ _ rv x _ HKW.out HH.out HB0.out HBW.out HW1.out HW2.out).mono ?_); rintro e w2 ⟨rfl, ⟨rv2, hh2, hat2⟩, hb2, hk2⟩; have HH2 := Aside0.mk hh2; have HB2 := Aside0.mk (HB.out.trans hb2); clear hh2 hat2 hb2 hk2 HH HB))
        clear d1 p1 p0 hx
        rw [QI.out]
        refine ⟨?_, by simp [intOf]; have := HI.out; omega⟩
        exact ⟨i + 1, rv2, HI.out, rfl, by rw [HCT.out, HCL.out]; exact HH2, HB2⟩
      · obtain rfl : i = n := by omega
        have d1 : decide ((i : Int) < (i : Int)) = false := decide_eq_false (by omega)
        have hall : l0.take i = l0 := List.take_of_length_le (by rw [HN.out]; exact Nat.le_refl _)
        rw [hall] at HH hrest
        have HW1 := Aside0.mk (show (Sha.eat Sha.init (sha_Sum.cat l0)).2.length ≤ 1000000000000 by rw [hrest]; omega)
        have HW2 := Aside0.mk (show (sha_Sum.cat l0).length ≤ 1000000000000000000 by have := HZ.out; omega)
        clear hall hrest hle hi hlt
        go_wp2_with (first | (go_at_call 13; (with_reducible refine (Sha.sum_calls w.heap.size g _ _ _ rv _ HKW.out HH.out HW1.out HW2.out).mono ?_); rintro e w2 ⟨rfl, hb2⟩; have HB2 := Aside0.mk (HB.out.trans (hb2.mono HB.out.size)); clear hb2))
        go_ret
        exact ⟨rfl, HB2.out⟩
  · rw [if_neg hz] at h
    cases h

/-! ### sha_Hex: function 22, by hand -/
def sha_Hex.hd (n : Nat) : UInt8 := [48, 49, 50, 51, 52, 53, 54, 55, 56, 57, 97, 98, 99, 100, 101, 102].getD n 0
def sha_Hex.hex (l : List UInt8) : List UInt8 := l.flatMap fun b => [sha_Hex.hd (b.toNat / 16), sha_Hex.hd (b.toNat % 16)]
def sha_Hex.f (a0 : ByteArray) : Option ByteArray := if a0.size ≤ 1000000000000 then some ⟨(sha_Hex.hex a0.data.toList).toArray⟩ else none
theorem sha_Hex.hex_length (l : List UInt8) : (sha_Hex.hex l).length = 2 * l.length := by
  induction l with
  | nil => rfl
  | cons b l ih => simp only [sha_Hex.hex, List.flatMap_cons, List.length_append, List.length_cons, List.length_nil] at ih ⊢; omega
theorem sha_Hex.ix0 (W : World) : (Instr.index 9 (.string ⟨#[48, 49, 50, 51, 52, 53, 54, 55, 56, 57, 97, 98, 99, 100, 101, 102]⟩) (.int .u8 0)).run Tryd.prog W = .ok (.int .u8 48) W := by kernel_rfl
theorem sha_Hex.ix1 (W : World) : (Instr.index 9 (.string ⟨#[48, 49, 50, 51, 52, 53, 54, 55, 56, 57, 97, 98, 99, 100, 101, 102]⟩) (.int .u8 1)).run Tryd.prog W = .ok (.int .u8 49) W := by kernel_rfl
theorem sha_Hex.ix2 (W : World) : (Instr.index 9 (.string ⟨#[48, 49, 50, 51, 52, 53, 54, 55, 56, 57, 97, 98, 99, 100, 101, 102]⟩) (.int .u8 2)).run Tryd.prog W = .ok (.int .u8 50) W := by kernel_rfl
theorem sha_Hex.ix3 (W : World) : (Instr.index 9 (.string ⟨#[48, 49, 50, 51, 52, 53, 54, 55, 56, 57, 97, 98, 99, 100, 101, 102]⟩) (.int .u8 3)).run Tryd.prog W = .ok (.int .u8 51) W := by kernel_rfl
theorem sha_Hex.ix4 (W : World) : (Instr.index 9 (.string ⟨#[48, 49, 50, 51, 52, 53, 54, 55, 56, 57, 97, 98, 99, 100, 101, 102]⟩) (.int .u8 4)).run Tryd.prog W = .ok (.int .u8 52) W := by kernel_rfl
theorem sha_Hex.ix5 (W : World) : (Instr.index 9 (.string ⟨#[48, 49, 50, 51, 52, 53, 54, 55, 56, 57, 97, 98, 99, 100, 101, 102]⟩) (.int .u8 5)).run Tryd.prog W = .ok (.int .u8 53) W := by kernel_rfl
theorem sha_Hex.ix6 (W : World) : (Instr.index 9 (.string ⟨#[48, 49, 50, 51, 52, 53, 54, 55, 56, 57, 97, 98, 99, 100, 101, 102]⟩) (.int .u8 6)).run Tryd.prog W = .ok (.int .u8 54) W := by kernel_rfl
theorem sha_Hex.ix7 (W : World) : (Instr.index 9 (.string ⟨#[48, 49, 50, 51, 52, 53, 54, 55, 56, 57, 97, 98, 99, 100, 101, 102]⟩) (.int .u8 7)).run Tryd.prog W = .ok (.int .u8 55) W := by kernel_rfl
theorem sha_Hex.ix8 (W : World) : (Instr.index 9 (.string ⟨#[48, 49, 50, 51, 52, 53, 54, 55, 56, 57, 97, 98, 99, 100, 101, 102]⟩) (.int .u8 8)).run Tryd.prog W = .ok (.int .u8 56) W := by kernel_rfl
theorem sha_Hex.ix9 (W : World) : (Instr.index 9 (.string ⟨#[48, 49, 50, 51, 52, 53, 54, 55, 56, 57, 97, 98, 99, 100, 101, 102]⟩) (.int .u8 9)).run Tryd.prog W = .ok (.int .u8 57) W := by kernel_rfl
theorem sha_Hex.ix10 (W : World) : (Instr.index 9 (.string ⟨#[48, 49, 50, 51, 52, 53, 54, 55, 56, 57, 97, 98, 99, 100, 101, 102]⟩) (.int .u8 10)).run Tryd.prog W = .ok (.int .u8 97) W := by kernel_rfl
theorem sha_Hex.ix11 (W : World) : (Instr.index 9 (.string ⟨#[48, 49, 50, 51, 52, 53, 54, 55, 56, 57, 97, 98, 99, 100, 101, 102]⟩) (.int .u8 11)).run Tryd.prog W = .ok (.int .u8 98) W := by kernel_rfl
theorem sha_Hex.ix12 (W : World) : (Instr.index 9 (.string ⟨#[48, 49, 50, 51, 52, 53, 54, 55, 56, 57, 97, 98, 99, 100, 101, 102]⟩) (.int .u8 12)).run Tryd.prog W = .ok (.int .u8 99) W := by kernel_rfl
theorem sha_Hex.ix13 (W : World) : (Instr.index 9 (.string ⟨#[48, 49, 50, 51, 52, 53, 54, 55, 56, 57, 97, 98, 99, 100, 101, 102]⟩) (.int .u8 13)).run Tryd.prog W = .ok (.int .u8 100) W := by kernel_rfl
theorem sha_Hex.ix14 (W : World) : (Instr.index 9 (.string ⟨#[48, 49, 50, 51, 52, 53, 54, 55, 56, 57, 97, 98, 99, 100, 101, 102]⟩) (.int .u8 14)).run Tryd.prog W = .ok (.int .u8 101) W := by kernel_rfl
theorem sha_Hex.ix15 (W : World) : (Instr.index 9 (.string ⟨#[48, 49, 50, 51, 52, 53, 54, 55, 56, 57, 97, 98, 99, 100, 101, 102]⟩) (.int .u8 15)).run Tryd.prog W = .ok (.int .u8 102) W := by kernel_rfl
theorem sha_Hex.ix (k : Nat) (hk : k < 16) (W : World) : (Instr.index 9 (.string ⟨#[48, 49, 50, 51, 52, 53, 54, 55, 56, 57, 97, 98, 99, 100, 101, 102]⟩) (.int .u8 (k : Int))).run Tryd.prog W = .ok (.int .u8 (((sha_Hex.hd k).toNat : Nat) : Int)) W := by
  have h : k = 0 ∨ k = 1 ∨ k = 2 ∨ k = 3 ∨ k = 4 ∨ k = 5 ∨ k = 6 ∨ k = 7 ∨ k = 8 ∨ k = 9 ∨ k = 10 ∨ k = 11 ∨ k = 12 ∨ k = 13 ∨ k = 14 ∨ k = 15 := by omega
  rcases h with rfl | rfl | rfl | rfl | rfl | rfl | rfl | rfl | rfl | rfl | rfl | rfl | rfl | rfl | rfl | rfl
  · exact sha_Hex.ix0 W
  · exact sha_Hex.ix1 W
  · exact sha_Hex.ix2 W
  · exact sha_Hex.ix3 W
  · exact sha_Hex.ix4 W
  · exact sha_Hex.ix5 W
  · exact sha_Hex.ix6 W
  · exact sha_Hex.ix7 W
  · exact sha_Hex.ix8 W
  · exact sha_Hex.ix9 W
  · exact sha_Hex.ix10 W
  · exact sha_Hex.ix11 W
  · exact sha_Hex.ix12 W
  · exact sha_Hex.ix13 W
  · exact sha_Hex.ix14 W
  · exact sha_Hex.ix15 W
theorem sha_Hex.low_all : ∀ c : Fin 256, Go.bits .and .u8 (c.val : Int) 15 = ((c.val % 16 : Nat) : Int) := by decide +kernel
theorem sha_Hex.low (c : UInt8) : Go.bits .and .u8 ((c.toNat : Nat) : Int) 15 = ((c.toNat % 16 : Nat) : Int) := sha_Hex.low_all ⟨c.toNat, c.toNat_lt⟩
set_option maxHeartbeats 1000000 in
set_option maxRecDepth 100000 in
theorem sha_Hex.calls (a0 : ByteArray) (r : ByteArray) (w : World) (h : sha_Hex.f a0 = some r) :
    Calls Tryd.prog 22 #[.string a0] w fun e w' => e = .returned (.string r) ∧ Below w.heap.size w w' := by
  unfold sha_Hex.f at h
  by_cases hz : a0.size ≤ 1000000000000
  · rw [if_pos hz] at h
    obtain rfl := Option.some.inj h
    have HZ := Aside0.mk hz
    have HLN : Aside0 (a0.data.toList.length = a0.size) := ⟨data_length a0⟩
    have kb := fun W => print_bytes (P := Tryd.prog) 9 42 5 Tryd.underlying9 Tryd.underlying42 Tryd.underlying5 a0 W
    clear h hz
    go_enter Tryd.func22, Tryd.ntmps22
    go_wp2
    have HB0 := Aside0.mk (Sha.BldAt.new w)
    have HBL0 := Aside0.mk (below_alloc (Below.refl w.heap.size w) (.cells #[.pointer none, .slice none 0 0] 62))
    have hq : (w.alloc (.cells #[.pointer none, .slice none 0 0] 62)).heap.size = w.heap.size + 1 := by simp
    have hb := bytes_below (Below.refl (w.alloc (.cells #[.pointer none, .slice none 0 0] 62)).heap.size (w.alloc (.cells #[.pointer none, .slice none 0 0] 62))) (Nat.le_refl _) 5 a0
    have hc : ∀ j, j < a0.size → (Lib.bytesWorld (w.alloc (.cells #[.pointer none, .slice none 0 0] 62)) 5 a0).cell? ⟨w.heap.size + 1, j, none⟩ = some (.int .u8 ((((a0.data.toList.getD j 0)).toNat : Nat) : Int)) := fun j hj => by
      have h := (bytes_reads (w.alloc (.cells #[.pointer none, .slice none 0 0] 62)) 5 a0 (by have := HZ.out; omega)).2.2 (by omega)
      obtain ⟨ad, e, hx⟩ := h
      cases e
      have h2 := hx j hj
      rw [add_plain, hq] at h2
      rw [h2]
      congr 2
      exact Sha.bl_at a0.data.toList j
    have hlt : w.heap.size + 1 < (Lib.bytesWorld (w.alloc (.cells #[.pointer none, .slice none 0 0] 62)) 5 a0).heap.size ∨ a0.size = 0 := by
      by_cases hz : a0.size = 0
      · exact .inr hz
      · exact .inl (World.block_lt_of_cell? _ _ (hc 0 (by omega)))
    have HB1 := Aside0.mk (HBL0.out.trans (hb.mono HBL0.out.size))
    have HH1 : Aside0 (Sha.BldAt w.heap.size w.heap.size (.pointer none) (.slice none 0 0) [] (Lib.bytesWorld (w.alloc (.cells #[.pointer none, .slice none 0 0] 62)) 5 a0)) := by
      obtain ⟨x1, x2, x3, x4, x5⟩ := HB0.out
      exact ⟨⟨(hb.block w.heap.size (by rw [hq]; omega)).trans x1, ⟨rfl, .inl ⟨rfl, rfl⟩⟩, x3, x4, x5⟩⟩
    have HC1 := Aside0.mk hc
    have HLT := Aside0.mk hlt
    clear hb hc hlt hq HB0 HBL0 kb
    generalize Lib.bytesWorld (w.alloc (.cells #[.pointer none, .slice none 0 0] 62)) 5 a0 = W3 at *
    generalize grownCap (w.alloc (.cells #[.pointer none, .slice none 0 0] 62)) a0.size 0 5 = cap at *
    obtain ⟨n, hn⟩ : ∃ n, a0.size = n := ⟨_, rfl⟩
    rw [hn] at HZ HLN HC1 HLT ⊢
    clear hn
    go_loopw [9] (fun v9 w' => ∃ (i : Nat) (p v : Value), i ≤ n ∧ v9 = .int .i64 (i : Int) ∧ Aside0 (Sha.BldAt w.heap.size w.heap.size p v (sha_Hex.hex (a0.data.toList.take i)) w') ∧ Aside0 (v.ownBlock = none ∨ ∃ k, v.ownBlock = some k ∧ W3.heap.size ≤ k) ∧ Aside0 (∀ j, j < n → w'.cell? ⟨w.heap.size + 1, j, none⟩ = some (.int .u8 ((((a0.data.toList.getD j 0)).toNat : Nat) : Int))) ∧ Aside0 (Below w.heap.size w w') ∧ Aside0 (W3.heap.size ≤ w'.heap.size)) (fun v9 _ => n - (intOf v9).toNat)
    case atStart => exact ⟨0, _, _, Nat.zero_le _, rfl, HH1, ⟨.inl rfl⟩, HC1, HB1, ⟨Nat.le_refl _⟩⟩
    case round =>
      clear HH1 HC1 HB1
      obtain ⟨i, p, v, hi, rfl, H, HA, HC, HB, HS⟩ := hrel
      by_cases hlt : i < n
      · have d1 : decide ((i : Int) < (n : Int)) = true := decide_eq_true (by omega)
        have p1 : (i : Int) < (n : Int) := by omega
        have p0 : 0 ≤ (i : Int) := by omega
        have hx := HC.out i hlt
        have HQ := Aside0.mk (show w.heap.size + 1 < W3.heap.size by rcases HLT.out with h | h
                                                                     · exact h
                                                                     · omega)
        have htk : sha_Hex.hex (a0.data.toList.take (i + 1)) = sha_Hex.hex (a0.data.toList.take i) ++ [sha_Hex.hd ((a0.data.toList.getD i 0).toNat / 16)] ++ [sha_Hex.hd ((a0.data.toList.getD i 0).toNat % 16)] := by
          have hl : i < a0.data.toList.length := by rw [HLN.out]; exact hlt
          rw [List.take_succ_eq_append_getElem hl, List.getD_eq_getElem?_getD, List.getElem?_eq_getElem hl]
          simp [sha_Hex.hex]
        have HX := Aside0.mk (show (sha_Hex.hex (a0.data.toList.take i)).length ≤ 2000000000000 by rw [sha_Hex.hex_length, List.length_take, HLN.out]; have := HZ.out; omega)
        generalize a0.data.toList.getD i 0 = c at *
        have hc256 := c.toNat_lt
        obtain ⟨hi4, h4⟩ : ∃ x, x = c.toNat / 16 := ⟨_, rfl⟩
        obtain ⟨lo4, l4⟩ : ∃ x, x = c.toNat % 16 := ⟨_, rfl⟩
        rw [← h4, ← l4] at htk
        have s1 : ((c.toNat : Nat) : Int) / 16 = (hi4 : Int) := by omega
        have s2 : Go.bits .and .u8 ((c.toNat : Nat) : Int) 15 = (lo4 : Int) := by rw [sha_Hex.low, l4]
        have x1 := sha_Hex.ix hi4 (by omega)
        have x2 := sha_Hex.ix lo4 (by omega)
        have HTK := Aside0.mk htk
        have HI := Aside0.mk (show i + 1 ≤ n by omega)
        have QI := Aside0.mk (show wrap64 ((i : Int) + 1) = ((i + 1 : Nat) : Int) by have := HZ.out; unfold wrap64; omega)
        clear htk h4 l4 hc256 hlt hi
        go_wp2_with (first | (go_at_call 36; (with_reducible first | refine (Sha.wb_calls w.heap.size w.heap.size _ _ _ (sha_Hex.hd hi4) _ H.out HB.out.size (by have := HX.out; (try simp only [List.length_append, List.length_cons, List.length_nil]); omega)).mono ?_ | refine (Sha.wb_calls w.heap.size w.heap.size _ _ _ (sha_Hex.hd lo4) _ H.out HB.out.size (by have := HX.out; (try simp only [List.length_append, List.length_cons, List.length_nil]); omega)).mono ?_); rintro e w5 ⟨rfl, ⟨v5, h5, hat5⟩, hb5, hk5⟩; have N1 := Aside0.mk h5; have N2 := Aside0.mk (show v5.ownBlock = none ∨ ∃ k, v5.ownBlock = some k ∧ W3.heap.size ≤ k from hat5.elim (fun e => e ▸ HA.out) (fun ⟨k, e, hk⟩ => .inr ⟨k, e, Nat.le_trans HS.out hk⟩)); have N3 := Aside0.mk (show ∀ j, j < n → w5.cell? ⟨w.heap.size + 1, j, none⟩ = some (.int .u8 ((((a0.data.toList.getD j 0)).toNat : Nat) : Int)) from fun j hj => (World.cell?_of_block (a := ⟨w.heap.size + 1, j, none⟩) (hk5.2 (w.heap.size + 1) (Nat.lt_of_lt_of_le HQ.out HS.out) (by omega) (fun e => HA.out.elim (fun h => by rw [h] at e; cases e) (fun ⟨k, h, hk⟩ => by rw [h] at e; have := Option.some.inj e; have := HQ.out; omega)))).trans (HC.out j hj)); have N4 := Aside0.mk (HB.out.trans hb5); have N5 := Aside0.mk (Nat.le_trans HS.out hk5.1); clear h5 hat5 hb5 hk5 H HA HC HB HS; have H := N1; have HA := N2; have HC := N3; have HB := N4; have HS := N5; clear N1 N2 N3 N4 N5))
        clear d1 p1 p0 hx s1 s2 x1 x2
        rw [QI.out]
        refine ⟨?_, by simp [intOf]; have := HI.out; omega⟩
        exact ⟨i + 1, _, _, HI.out, rfl, by rw [HTK.out]; exact H, HA, HC, HB, HS⟩
      · obtain rfl : i = n := by omega
        have d1 : decide ((i : Int) < (i : Int)) = false := decide_eq_false (by omega)
        have hall : a0.data.toList.take i = a0.data.toList := List.take_of_length_le (by rw [HLN.out]; exact Nat.le_refl _)
        rw [hall] at H
        clear hall hi hlt
        go_wp2_with (first | (go_at_call 37; (with_reducible refine (Sha.str_calls w.heap.size w.heap.size _ _ _ _ H.out HB.out.size).mono ?_); rintro e w5 ⟨rfl, hb5⟩; have HB5 := Aside0.mk (HB.out.trans hb5); clear hb5))
        go_ret
        exact ⟨rfl, HB5.out⟩
  · rw [if_neg hz] at h
    cases h

/-! ### garretlaw02_works: function 10 -/
def garretlaw02_works.f  : Option (Bool) := (sha_Sum.f (([(⟨#[97, 98, 99]⟩ : ByteArray)] : List ByteArray))).bind fun t104 => ((sha_Hex.f t104).bind fun t105 => (if (t105.size : Int) = 64 then (if 0 ≤ 8 then (if 8 ≤ (t105.size : Int) then (if (t105.extract 0 8).toList = ([98, 97, 55, 56, 49, 54, 98, 102] : List UInt8) then ((sha_Sum.f (([(⟨#[97]⟩ : ByteArray), (⟨#[]⟩ : ByteArray), (⟨#[98, 99]⟩ : ByteArray)] : List ByteArray))).bind fun t109 => ((sha_Hex.f t109).bind fun t110 => (some (t105.toList == t110.toList)))) else (some false)) else (none)) else (none)) else (some false)))
set_option maxHeartbeats 8000000 in
set_option maxRecDepth 100000 in
theorem garretlaw02_works.calls  (r : Bool) (w : World) (hL : Laid w) (h : garretlaw02_works.f  = some r) :
    Calls Tryd.prog 10 #[] w fun e w' => e = .returned (.bool r) ∧ Below w.heap.size w w' := by
  have HLAID := Aside0.mk hL
  clear hL
  have HB := Aside0.mk (Below.refl w.heap.size w)
  have H : ((sha_Sum.f (([(⟨#[97, 98, 99]⟩ : ByteArray)] : List ByteArray))).bind fun t104 => ((sha_Hex.f t104).bind fun t105 => (if (t105.size : Int) = 64 then (if 0 ≤ 8 then (if 8 ≤ (t105.size : Int) then (if (t105.extract 0 8).toList = ([98, 97, 55, 56, 49, 54, 98, 102] : List UInt8) then ((sha_Sum.f (([(⟨#[97]⟩ : ByteArray), (⟨#[]⟩ : ByteArray), (⟨#[98, 99]⟩ : ByteArray)] : List ByteArray))).bind fun t109 => ((sha_Hex.f t109).bind fun t110 => (some (t105.toList == t110.toList)))) else (some false)) else (none)) else (none)) else (some false)))) = some r := h
  clear h
  obtain ⟨y101, hy101⟩ : ∃ y_ : List ByteArray, y_ = (([(⟨#[97, 98, 99]⟩ : ByteArray)] : List ByteArray)) := ⟨_, rfl⟩
  replace H : ((sha_Sum.f y101).bind fun t104 => ((sha_Hex.f t104).bind fun t105 => (if (t105.size : Int) = 64 then (if 0 ≤ 8 then (if 8 ≤ (t105.size : Int) then (if (t105.extract 0 8).toList = ([98, 97, 55, 56, 49, 54, 98, 102] : List UInt8) then ((sha_Sum.f (([(⟨#[97]⟩ : ByteArray), (⟨#[]⟩ : ByteArray), (⟨#[98, 99]⟩ : ByteArray)] : List ByteArray))).bind fun t109 => ((sha_Hex.f t109).bind fun t110 => (some (t105.toList == t110.toList)))) else (some false)) else (none)) else (none)) else (some false)))) = some r := by first | (rw [hy101]; with_reducible exact H) | (have H2_ := (Option.bind_some _ _).symm.trans H; rw [hy101]; with_reducible exact H2_) | (have H2_ := (Option.bind_some _ _).symm.trans H; with_reducible exact H2_) | with_reducible exact H | (rw [hy101]; exact H) | exact H
  have Ny101 := Aside0.mk hy101
  clear hy101
  replace H := Option.bind_eq_some_iff.mp H
  obtain ⟨t104, A10, H⟩ := H
  replace H : ((sha_Hex.f t104).bind fun t105 => (if (t105.size : Int) = 64 then (if 0 ≤ 8 then (if 8 ≤ (t105.size : Int) then (if (t105.extract 0 8).toList = ([98, 97, 55, 56, 49, 54, 98, 102] : List UInt8) then ((sha_Sum.f (([(⟨#[97]⟩ : ByteArray), (⟨#[]⟩ : ByteArray), (⟨#[98, 99]⟩ : ByteArray)] : List ByteArray))).bind fun t109 => ((sha_Hex.f t109).bind fun t110 => (some (t105.toList == t110.toList)))) else (some false)) else (none)) else (none)) else (some false))) = some r := H
  have A1 := Aside0.mk A10
  clear A10
  replace H := Option.bind_eq_some_iff.mp H
  obtain ⟨t105, A20, H⟩ := H
  replace H : (if (t105.size : Int) = 64 then (if 0 ≤ 8 then (if 8 ≤ (t105.size : Int) then (if (t105.extract 0 8).toList = ([98, 97, 55, 56, 49, 54, 98, 102] : List UInt8) then ((sha_Sum.f (([(⟨#[97]⟩ : ByteArray), (⟨#[]⟩ : ByteArray), (⟨#[98, 99]⟩ : ByteArray)] : List ByteArray))).bind fun t109 => ((sha_Hex.f t109).bind fun t110 => (some (t105.toList == t110.toList)))) else (some false)) else (none)) else (none)) else (some false)) = some r := H
  have A2 := Aside0.mk A20
  clear A20
  by_cases c3 : (t105.size : Int) = 64
  · rw [if_pos c3] at H
    have c3b0 : ((t105.size : Int) == 64) = true := beq_iff_eq.mpr c3
    have c3b1 : ((t105.size : Int) != 64) = false := bne_eq_false_iff_eq.mpr c3
    clear c3
    by_cases c4 : 0 ≤ 8
    · rw [if_pos c4] at H
      have c4b0 := eq_true c4
      have c4b1 : decide (0 ≤ 8) = true := decide_eq_true c4
      clear c4
      by_cases c5 : 8 ≤ (t105.size : Int)
      · rw [if_pos c5] at H
        have c5b0 := eq_true c5
        have c5b1 : decide (8 ≤ (t105.size : Int)) = true := decide_eq_true c5
        clear c5
        by_cases c6 : (t105.extract 0 8).toList = ([98, 97, 55, 56, 49, 54, 98, 102] : List UInt8)
        · rw [if_pos c6] at H
          have c6b0 : ((t105.extract 0 8).toList == ([98, 97, 55, 56, 49, 54, 98, 102] : List UInt8)) = true := beq_iff_eq.mpr c6
          have c6b1 : ((t105.extract 0 8).toList != ([98, 97, 55, 56, 49, 54, 98, 102] : List UInt8)) = false := bne_eq_false_iff_eq.mpr c6
          clear c6
          obtain ⟨y106, hy106⟩ : ∃ y_ : List ByteArray, y_ = (([(⟨#[97]⟩ : ByteArray), (⟨#[]⟩ : ByteArray), (⟨#[98, 99]⟩ : ByteArray)] : List ByteArray)) := ⟨_, rfl⟩
          replace H : ((sha_Sum.f y106).bind fun t109 => ((sha_Hex.f t109).bind fun t110 => (some (t105.toList == t110.toList)))) = some r := by first | (rw [hy106]; with_reducible exact H) | (have H2_ := (Option.bind_some _ _).symm.trans H; rw [hy106]; with_reducible exact H2_) | (have H2_ := (Option.bind_some _ _).symm.trans H; with_reducible exact H2_) | with_reducible exact H | (rw [hy106]; exact H) | exact H
          have Ny106 := Aside0.mk hy106
          clear hy106
          replace H := Option.bind_eq_some_iff.mp H
          obtain ⟨t109, A70, H⟩ := H
          replace H : ((sha_Hex.f t109).bind fun t110 => (some (t105.toList == t110.toList))) = some r := H
          have A7 := Aside0.mk A70
          clear A70
          replace H := Option.bind_eq_some_iff.mp H
          obtain ⟨t110, A80, H⟩ := H
          replace H : (some (t105.toList == t110.toList)) = some r := H
          have A8 := Aside0.mk A80
          clear A80
          obtain rfl := Option.some.inj H
          go_enter Tryd.func10, Tryd.ntmps10
          go_wp2_with (first | ((with_reducible refine gate_dst (N := 2) rfl ?_); (try (refine gate_guard (by rfl) ?_; dsimp only)); refine Kd.R_lit Kd.string _ 9 ?hg (N := 2) ?hd (xs := ([(⟨#[97, 98, 99]⟩ : ByteArray)] : List ByteArray)) (inner := [.string (⟨#[97, 98, 99]⟩ : ByteArray)]) (ok := fun _ => True) (okp := fun _ => True) ?hr ?hp (fun _ hk => hk) trivial (Below.refl _ _) (Nat.le_refl _) (by simp) ?_; (case hd => rfl); (case hg => rfl); (case hr => first | (go_simp; done) | (go_simp; rfl)); (case hp => exact (Reps.one (show Kd.M Kd.string _ _ _ (⟨#[97, 98, 99]⟩ : ByteArray) [.string (⟨#[97, 98, 99]⟩ : ByteArray)] from rfl) (Reps.none _ _))); intro v102 w9 ho10 hb hg_ hnew_; clear hg_ hnew_; (first | rw [← Ny101.out] at ho10 | (simp only [Int.reduceToNat] at ho10; rw [← Ny101.out] at ho10)); have n0_ := Aside0.mk (Kd.R_lower ho10 (below_size (by repeat (first | (with_reducible first | exact HB.out | apply below_alloc | apply pw_below_drewN | apply below_drew1) | exact HB.out)))); have n1_ := Aside0.mk (below_step (by repeat (first | (with_reducible first | exact HB.out | apply below_alloc | apply pw_below_drewN | apply below_drew1) | exact HB.out)) hb); clear HB; have HO103 := n0_; have HB := n1_; clear n0_ n1_; clear hb ho10; obtain ⟨Ao11, co11, eo11⟩ := Kd.R_slice HO103.out; subst eo11) | ((with_reducible refine gate_callee (f := 17) rfl ?_); refine goesL_ (some 3) rfl rfl Tryd.func17 (by kernel_rfl) rfl #[.slice Ao11 y101.length co11] rfl (by (try simp only [List.map_toArray, List.map_cons, List.map_nil]); first | done | rfl | (simp only [List.length_drop, List.length_take]; rfl)) ?_; (with_reducible refine (sha_Sum.calls _ _ y101 t104 _ ?side1 ?side2 ?side3 A1.out).mono ?_); (case side1 => repeat (first | exact (Kd.R_reads' HO103.out).2.2 | (with_reducible refine Kd.C_alloc ?_ _) | (with_reducible refine Kd.C_drewN ?_ _) | (with_reducible refine Kd.C_drew ?_))); (case side2 => exact (Kd.R_reads' HO103.out).2.1); (case side3 => first | exact HLAID.out | exact Laid.drewN HLAID.out _ | exact Laid.below HLAID.out (by repeat (first | (with_reducible first | exact HB.out | apply below_alloc | apply pw_below_drewN | apply below_drew1) | exact HB.out))); rintro e w12 ⟨rfl, hb⟩; refine ⟨_, rfl, ?_⟩; have n0_ := Aside0.mk (Kd.R_below (by (with_reducible repeat (first | apply Kd.R_alloc | apply Kd.R_drewN | apply Kd.R_drew)); exact HO103.out) hb); have n1_ := Aside0.mk (below_step (by repeat (first | (with_reducible first | exact HB.out | apply below_alloc | apply pw_below_drewN | apply below_drew1) | exact HB.out)) hb); clear HO103; clear HB; have HO103 := n0_; have HB := n1_; clear n0_ n1_; (try clear hb); (try clear hb2); (try clear hk); (try clear hi)) | ((with_reducible refine gate_callee (f := 22) rfl ?_); refine goesL_ (some 4) rfl rfl Tryd.func22 (by kernel_rfl) rfl #[.string t104] rfl (by (try simp only [List.map_toArray, List.map_cons, List.map_nil]); first | done | rfl | (simp only [List.length_drop, List.length_take]; rfl)) ?_; (with_reducible refine (sha_Hex.calls t104 t105 _ A2.out).mono ?_); rintro e w13 ⟨rfl, hb⟩; refine ⟨_, rfl, ?_⟩; have n0_ := Aside0.mk (Kd.R_below (by (with_reducible repeat (first | apply Kd.R_alloc | apply Kd.R_drewN | apply Kd.R_drew)); exact HO103.out) hb); have n1_ := Aside0.mk (below_step (by repeat (first | (with_reducible first | exact HB.out | apply below_alloc | apply pw_below_drewN | apply below_drew1) | exact HB.out)) hb); clear HO103; clear HB; have HO103 := n0_; have HB := n1_; clear n0_ n1_; (try clear hb); (try clear hb2); (try clear hk); (try clear hi)) | ((with_reducible refine gate_dst (N := 15) rfl ?_); (try (refine gate_guard (by rfl) ?_; dsimp only)); refine Kd.R_lit Kd.string _ 9 ?hg (N := 15) ?hd (xs := ([(⟨#[97]⟩ : ByteArray), (⟨#[]⟩ : ByteArray), (⟨#[98, 99]⟩ : ByteArray)] : List ByteArray)) (inner := [.string (⟨#[97]⟩ : ByteArray), .string (⟨#[]⟩ : ByteArray), .string (⟨#[98, 99]⟩ : ByteArray)]) (ok := fun _ => True) (okp := fun _ => True) ?hr ?hp (fun _ hk => hk) trivial (Below.refl _ _) (Nat.le_refl _) (by simp) ?_; (case hd => rfl); (case hg => rfl); (case hr => first | (go_simp; done) | (go_simp; rfl)); (case hp => exact (Reps.one (show Kd.M Kd.string _ _ _ (⟨#[97]⟩ : ByteArray) [.string (⟨#[97]⟩ : ByteArray)] from rfl) (Reps.one (show Kd.M Kd.string _ _ _ (⟨#[]⟩ : ByteArray) [.string (⟨#[]⟩ : ByteArray)] from rfl) (Reps.one (show Kd.M Kd.string _ _ _ (⟨#[98, 99]⟩ : ByteArray) [.string (⟨#[98, 99]⟩ : ByteArray)] from rfl) (Reps.none _ _))))); intro v107 w14 ho15 hb hg_ hnew_; clear hg_ hnew_; (first | rw [← Ny106.out] at ho15 | (simp only [Int.reduceToNat] at ho15; rw [← Ny106.out] at ho15)); have n0_ := Aside0.mk (Kd.R_elder' (by (with_reducible repeat (first | apply Kd.R_alloc | apply Kd.R_drewN | apply Kd.R_drew)); exact HO103.out) (Kd.R_base ho15) hb); have n1_ := Aside0.mk (Kd.R_lower (Kd.R_new' ho15 (Kd.R_lt (by (with_reducible repeat (first | apply Kd.R_alloc | apply Kd.R_drewN | apply Kd.R_drew)); exact HO103.out))) (below_size (by repeat (first | (with_reducible first | exact HB.out | apply below_alloc | apply pw_below_drewN | apply below_drew1) | exact HB.out)))); have n2_ := Aside0.mk (below_step (by repeat (first | (with_reducible first | exact HB.out | apply below_alloc | apply pw_below_drewN | apply below_drew1) | exact HB.out)) hb); clear HO103; clear HB; have HO103 := n0_; have HO108 := n1_; have HB := n2_; clear n0_ n1_ n2_; clear hb ho15; obtain ⟨Ao16, co16, eo16⟩ := Kd.R_slice HO108.out; subst eo16) | (go_at_call 17; (with_reducible refine (sha_Sum.calls _ _ y106 t109 _ ?side1 ?side2 ?side3 A7.out).mono ?_); (case side1 => repeat (first | exact (Kd.R_reads' HO108.out).2.2 | (with_reducible refine Kd.C_alloc ?_ _) | (with_reducible refine Kd.C_drewN ?_ _) | (with_reducible refine Kd.C_drew ?_))); (case side2 => exact (Kd.R_reads' HO108.out).2.1); (case side3 => first | exact HLAID.out | exact Laid.drewN HLAID.out _ | exact Laid.below HLAID.out (by repeat (first | (with_reducible first | exact HB.out | apply below_alloc | apply pw_below_drewN | apply below_drew1) | exact HB.out))); rintro e w17 ⟨rfl, hb⟩; have n0_ := Aside0.mk (Kd.R_below (by (with_reducible repeat (first | apply Kd.R_alloc | apply Kd.R_drewN | apply Kd.R_drew)); exact HO103.out) hb); have n1_ := Aside0.mk (Kd.R_below (by (with_reducible repeat (first | apply Kd.R_alloc | apply Kd.R_drewN | apply Kd.R_drew)); exact HO108.out) hb); have n2_ := Aside0.mk (below_step (by repeat (first | (with_reducible first | exact HB.out | apply below_alloc | apply pw_below_drewN | apply below_drew1) | exact HB.out)) hb); clear HO103; clear HO108; clear HB; have HO103 := n0_; have HO108 := n1_; have HB := n2_; clear n0_ n1_ n2_; (try clear hb); (try clear hb2); (try clear hk); (try clear hi)) | (go_at_call 22; (with_reducible refine (sha_Hex.calls t109 t110 _ A8.out).mono ?_); rintro e w18 ⟨rfl, hb⟩; have n0_ := Aside0.mk (Kd.R_below (by (with_reducible repeat (first | apply Kd.R_alloc | apply Kd.R_drewN | apply Kd.R_drew)); exact HO103.out) hb); have n1_ := Aside0.mk (Kd.R_below (by (with_reducible repeat (first | apply Kd.R_alloc | apply Kd.R_drewN | apply Kd.R_drew)); exact HO108.out) hb); have n2_ := Aside0.mk (below_step (by repeat (first | (with_reducible first | exact HB.out | apply below_alloc | apply pw_below_drewN | apply below_drew1) | exact HB.out)) hb); clear HO103; clear HO108; clear HB; have HO103 := n0_; have HO108 := n1_; have HB := n2_; clear n0_ n1_ n2_; (try clear hb); (try clear hb2); (try clear hk); (try clear hi)))
          go_ret
          exact ⟨by first | rfl | (simp [errW_none, errW_some] <;> rfl) | (simp [*, errW_none, errW_some] <;> rfl), by repeat (first | (with_reducible first | exact HB.out | apply below_alloc | apply pw_below_drewN | apply below_drew1) | exact HB.out)⟩
        · rw [if_neg c6] at H
          have c6b0 : ((t105.extract 0 8).toList == ([98, 97, 55, 56, 49, 54, 98, 102] : List UInt8)) = false := beq_eq_false_iff_ne.mpr c6
          have c6b1 : ((t105.extract 0 8).toList != ([98, 97, 55, 56, 49, 54, 98, 102] : List UInt8)) = true := bne_iff_ne.mpr c6
          obtain rfl := Option.some.inj H
          go_enter Tryd.func10, Tryd.ntmps10
          go_wp2_with (first | ((with_reducible refine gate_dst (N := 2) rfl ?_); (try (refine gate_guard (by rfl) ?_; dsimp only)); refine Kd.R_lit Kd.string _ 9 ?hg (N := 2) ?hd (xs := ([(⟨#[97, 98, 99]⟩ : ByteArray)] : List ByteArray)) (inner := [.string (⟨#[97, 98, 99]⟩ : ByteArray)]) (ok := fun _ => True) (okp := fun _ => True) ?hr ?hp (fun _ hk => hk) trivial (Below.refl _ _) (Nat.le_refl _) (by simp) ?_; (case hd => rfl); (case hg => rfl); (case hr => first | (go_simp; done) | (go_simp; rfl)); (case hp => exact (Reps.one (show Kd.M Kd.string _ _ _ (⟨#[97, 98, 99]⟩ : ByteArray) [.string (⟨#[97, 98, 99]⟩ : ByteArray)] from rfl) (Reps.none _ _))); intro v102 w19 ho20 hb hg_ hnew_; clear hg_ hnew_; (first | rw [← Ny101.out] at ho20 | (simp only [Int.reduceToNat] at ho20; rw [← Ny101.out] at ho20)); have n0_ := Aside0.mk (Kd.R_lower ho20 (below_size (by repeat (first | (with_reducible first | exact HB.out | apply below_alloc | apply pw_below_drewN | apply below_drew1) | exact HB.out)))); have n1_ := Aside0.mk (below_step (by repeat (first | (with_reducible first | exact HB.out | apply below_alloc | apply pw_below_drewN | apply below_drew1) | exact HB.out)) hb); clear HB; have HO103 := n0_; have HB := n1_; clear n0_ n1_; clear hb ho20; obtain ⟨Ao21, co21, eo21⟩ := Kd.R_slice HO103.out; subst eo21) | ((with_reducible refine gate_callee (f := 17) rfl ?_); refine goesL_ (some 3) rfl rfl Tryd.func17 (by kernel_rfl) rfl #[.slice Ao21 y101.length co21] rfl (by (try simp only [List.map_toArray, List.map_cons, List.map_nil]); first | done | rfl | (simp only [List.length_drop, List.length_take]; rfl)) ?_; (with_reducible refine (sha_Sum.calls _ _ y101 t104 _ ?side1 ?side2 ?side3 A1.out).mono ?_); (case side1 => repeat (first | exact (Kd.R_reads' HO103.out).2.2 | (with_reducible refine Kd.C_alloc ?_ _) | (with_reducible refine Kd.C_drewN ?_ _) | (with_reducible refine Kd.C_drew ?_))); (case side2 => exact (Kd.R_reads' HO103.out).2.1); (case side3 => first | exact HLAID.out | exact Laid.drewN HLAID.out _ | exact Laid.below HLAID.out (by repeat (first | (with_reducible first | exact HB.out | apply below_alloc | apply pw_below_drewN | apply below_drew1) | exact HB.out))); rintro e w22 ⟨rfl, hb⟩; refine ⟨_, rfl, ?_⟩; have n0_ := Aside0.mk (Kd.R_below (by (with_reducible repeat (first | apply Kd.R_alloc | apply Kd.R_drewN | apply Kd.R_drew)); exact HO103.out) hb); have n1_ := Aside0.mk (below_step (by repeat (first | (with_reducible first | exact HB.out | apply below_alloc | apply pw_below_drewN | apply below_drew1) | exact HB.out)) hb); clear HO103; clear HB; have HO103 := n0_; have HB := n1_; clear n0_ n1_; (try clear hb); (try clear hb2); (try clear hk); (try clear hi)) | ((with_reducible refine gate_callee (f := 22) rfl ?_); refine goesL_ (some 4) rfl rfl Tryd.func22 (by kernel_rfl) rfl #[.string t104] rfl (by (try simp only [List.map_toArray, List.map_cons, List.map_nil]); first | done | rfl | (simp only [List.length_drop, List.length_take]; rfl)) ?_; (with_reducible refine (sha_Hex.calls t104 t105 _ A2.out).mono ?_); rintro e w23 ⟨rfl, hb⟩; refine ⟨_, rfl, ?_⟩; have n0_ := Aside0.mk (Kd.R_below (by (with_reducible repeat (first | apply Kd.R_alloc | apply Kd.R_drewN | apply Kd.R_drew)); exact HO103.out) hb); have n1_ := Aside0.mk (below_step (by repeat (first | (with_reducible first | exact HB.out | apply below_alloc | apply pw_below_drewN | apply below_drew1) | exact HB.out)) hb); clear HO103; clear HB; have HO103 := n0_; have HB := n1_; clear n0_ n1_; (try clear hb); (try clear hb2); (try clear hk); (try clear hi)))
          go_ret
          exact ⟨by first | rfl | (simp [errW_none, errW_some] <;> rfl) | (simp [*, errW_none, errW_some] <;> rfl), by repeat (first | (with_reducible first | exact HB.out | apply below_alloc | apply pw_below_drewN | apply below_drew1) | exact HB.out)⟩
      · rw [if_neg c5] at H
        exact absurd H (by simp)
    · rw [if_neg c4] at H
      exact absurd H (by simp)
  · rw [if_neg c3] at H
    have c3b0 : ((t105.size : Int) == 64) = false := beq_eq_false_iff_ne.mpr c3
    have c3b1 : ((t105.size : Int) != 64) = true := bne_iff_ne.mpr c3
    obtain rfl := Option.some.inj H
    go_enter Tryd.func10, Tryd.ntmps10
    go_wp2_with (first | ((with_reducible refine gate_dst (N := 2) rfl ?_); (try (refine gate_guard (by rfl) ?_; dsimp only)); refine Kd.R_lit Kd.string _ 9 ?hg (N := 2) ?hd (xs := ([(⟨#[97, 98, 99]⟩ : ByteArray)] : List ByteArray)) (inner := [.string (⟨#[97, 98, 99]⟩ : ByteArray)]) (ok := fun _ => True) (okp := fun _ => True) ?hr ?hp (fun _ hk => hk) trivial (Below.refl _ _) (Nat.le_refl _) (by simp) ?_; (case hd => rfl); (case hg => rfl); (case hr => first | (go_simp; done) | (go_simp; rfl)); (case hp => exact (Reps.one (show Kd.M Kd.string _ _ _ (⟨#[97, 98, 99]⟩ : ByteArray) [.string (⟨#[97, 98, 99]⟩ : ByteArray)] from rfl) (Reps.none _ _))); intro v102 w24 ho25 hb hg_ hnew_; clear hg_ hnew_; (first | rw [← Ny101.out] at ho25 | (simp only [Int.reduceToNat] at ho25; rw [← Ny101.out] at ho25)); have n0_ := Aside0.mk (Kd.R_lower ho25 (below_size (by repeat (first | (with_reducible first | exact HB.out | apply below_alloc | apply pw_below_drewN | apply below_drew1) | exact HB.out)))); have n1_ := Aside0.mk (below_step (by repeat (first | (with_reducible first | exact HB.out | apply below_alloc | apply pw_below_drewN | apply below_drew1) | exact HB.out)) hb); clear HB; have HO103 := n0_; have HB := n1_; clear n0_ n1_; clear hb ho25; obtain ⟨Ao26, co26, eo26⟩ := Kd.R_slice HO103.out; subst eo26) | ((with_reducible refine gate_callee (f := 17) rfl ?_); refine goesL_ (some 3) rfl rfl Tryd.func17 (by kernel_rfl) rfl #[.slice Ao26 y101.length co26] rfl (by (try simp only [List.map_toArray, List.map_cons, List.map_nil]); first | done | rfl | (simp only [List.length_drop, List.length_take]; rfl)) ?_; (with_reducible refine (sha_Sum.calls _ _ y101 t104 _ ?side1 ?side2 ?side3 A1.out).mono ?_); (case side1 => repeat (first | exact (Kd.R_reads' HO103.out).2.2 | (with_reducible refine Kd.C_alloc ?_ _) | (with_reducible refine Kd.C_drewN ?_ _) | (with_reducible refine Kd.C_drew ?_))); (case side2 => exact (Kd.R_reads' HO103.out).2.1); (case side3 => first | exact HLAID.out | exact Laid.drewN HLAID.out _ | exact Laid.below HLAID.out (by repeat (first | (with_reducible first | exact HB.out | apply below_alloc | apply pw_below_drewN | apply below_drew1) | exact HB.out))); rintro e w27 ⟨rfl, hb⟩; refine ⟨_, rfl, ?_⟩; have n0_ := Aside0.mk (Kd.R_below (by (with_reducible repeat (first | apply Kd.R_alloc | apply Kd.R_drewN | apply Kd.R_drew)); exact HO103.out) hb); have n1_ := Aside0.mk (below_step (by repeat (first | (with_reducible first | exact HB.out | apply below_alloc | apply pw_below_drewN | apply below_drew1) | exact HB.out)) hb); clear HO103; clear HB; have HO103 := n0_; have HB := n1_; clear n0_ n1_; (try clear hb); (try clear hb2); (try clear hk); (try clear hi)) | ((with_reducible refine gate_callee (f := 22) rfl ?_); refine goesL_ (some 4) rfl rfl Tryd.func22 (by kernel_rfl) rfl #[.string t104] rfl (by (try simp only [List.map_toArray, List.map_cons, List.map_nil]); first | done | rfl | (simp only [List.length_drop, List.length_take]; rfl)) ?_; (with_reducible refine (sha_Hex.calls t104 t105 _ A2.out).mono ?_); rintro e w28 ⟨rfl, hb⟩; refine ⟨_, rfl, ?_⟩; have n0_ := Aside0.mk (Kd.R_below (by (with_reducible repeat (first | apply Kd.R_alloc | apply Kd.R_drewN | apply Kd.R_drew)); exact HO103.out) hb); have n1_ := Aside0.mk (below_step (by repeat (first | (with_reducible first | exact HB.out | apply below_alloc | apply pw_below_drewN | apply below_drew1) | exact HB.out)) hb); clear HO103; clear HB; have HO103 := n0_; have HB := n1_; clear n0_ n1_; (try clear hb); (try clear hb2); (try clear hk); (try clear hi)))
    go_ret
    exact ⟨by first | rfl | (simp [errW_none, errW_some] <;> rfl) | (simp [*, errW_none, errW_some] <;> rfl), by repeat (first | (with_reducible first | exact HB.out | apply below_alloc | apply pw_below_drewN | apply below_drew1) | exact HB.out)⟩

/-! ### garretbook_Among: function 20 -/
def garretbook_Among.f (a0 : Int) (a1 : Int) : Option (Int) := if a1 = 0 then (none) else (some (Int.tmod (wrap64 ((Int.tmod a0 a1) + a1)) a1))
set_option maxHeartbeats 8000000 in
set_option maxRecDepth 100000 in
theorem garretbook_Among.calls (a0 : Int) (a1 : Int) (r : Int) (w : World) (h : garretbook_Among.f a0 a1 = some r) :
    Calls Tryd.prog 20 #[.int .i64 a0, .int .i64 a1] w fun e w' => e = .returned (.int .i64 r) ∧ Drawn0 w w' := by
  have H : (if a1 = 0 then (none) else (some (Int.tmod (wrap64 ((Int.tmod a0 a1) + a1)) a1))) = some r := h
  clear h
  by_cases c3 : a1 = 0
  · rw [if_pos c3] at H
    exact absurd H (by simp)
  · rw [if_neg c3] at H
    have c3b0 : (a1 == 0) = false := beq_eq_false_iff_ne.mpr c3
    have c3b1 : (a1 != 0) = true := bne_iff_ne.mpr c3
    obtain rfl := Option.some.inj H
    go_enter Tryd.func20, Tryd.ntmps20
    go_wp2
    go_ret
    exact ⟨by first | rfl | (simp; done) | (simp [*]; done) | (simp; exact (by decide : ∀ p q : Bool, (p == q) = (!(p != q))) _ _) | (simp; exact (by decide : ∀ p q : Bool, (!(p != q)) = (p == q)) _ _), by repeat (first | exact Drawn0.refl _ | apply Drawn0.step)⟩

/-! ### sha_IsId: function 21 -/
def sha_IsId.f (a0 : ByteArray) : Option (Bool) := some ((a0.size : Int) == 32)
set_option maxHeartbeats 8000000 in
set_option maxRecDepth 100000 in
theorem sha_IsId.calls (a0 : ByteArray) (r : Bool) (w : World) (h : sha_IsId.f a0 = some r) :
    Calls Tryd.prog 21 #[.string a0] w fun e w' => e = .returned (.bool r) ∧ Drawn0 w w' := by
  have H : (some ((a0.size : Int) == 32)) = some r := h
  clear h
  obtain rfl := Option.some.inj H
  go_enter Tryd.func21, Tryd.ntmps21
  go_wp2
  go_ret
  exact ⟨by first | rfl | (simp; done) | (simp [*]; done) | (simp; exact (by decide : ∀ p q : Bool, (p == q) = (!(p != q))) _ _) | (simp; exact (by decide : ∀ p q : Bool, (!(p != q)) = (p == q)) _ _), by repeat (first | exact Drawn0.refl _ | apply Drawn0.step)⟩

/-! ### garretlaw02_ShaPieces: function 4, by hand -/
def garretlaw02_ShaPieces.f (a0 : ByteArray) (l1 : List Int) : Option Bool := if (∀ y ∈ l1, (Lit.int .i64 y).wf = true) ∧ garretlaw02_works.f = some true then some true else none
theorem garretlaw02_ShaPieces.among (a n : Int) (h0 : -9223372036854775808 ≤ a) (h1 : a ≤ 9223372036854775807) (hn : 0 < n) (hn2 : n ≤ 1000000) : ∃ r : Nat, garretbook_Among.f a n = some (r : Int) ∧ (r : Int) < n := by
  unfold garretbook_Among.f
  rw [if_neg (by omega)]
  have hA : -n < Int.tmod a n ∧ Int.tmod a n < n := by
    have := Int.tmod_lt_of_pos a hn
    have h2 := Int.tmod_lt_of_pos (-a) hn
    rw [Int.neg_tmod] at h2
    omega
  have hw : wrap64 (Int.tmod a n + n) = Int.tmod a n + n := by
    have := hA.1; have := hA.2
    generalize Int.tmod a n = q at *
    unfold wrap64; omega
  rw [hw]
  have g0 : 0 ≤ Int.tmod (Int.tmod a n + n) n := Int.tmod_nonneg _ (by omega)
  have g1 : Int.tmod (Int.tmod a n + n) n < n := Int.tmod_lt_of_pos _ hn
  generalize Int.tmod (Int.tmod a n + n) n = q at *
  exact ⟨q.toNat, by show some q = some ((q.toNat : Nat) : Int); rw [Int.toNat_of_nonneg g0], by omega⟩
theorem garretlaw02_ShaPieces.join (t : ByteArray) (m : Nat) (hm : m ≤ t.size) : (t.extract 0 m).data.toList ++ (t.extract m t.size).data.toList = t.data.toList := by
  simp only [ByteArray.data_extract, Array.toList_extract, List.extract_eq_take_drop, List.drop_zero, Nat.sub_zero]
  have h : t.data.toList.length = t.size := data_length t
  rw [List.take_of_length_le (l := t.data.toList.drop m) (by rw [List.length_drop]; omega), List.take_append_drop]
theorem garretlaw02_ShaPieces.len_calls (B g : Nat) (s : Sha.S8) (rest : List UInt8) (long : Nat) (rv : Value) (w : World) (h : Sha.HashAt B w g s rest long rv) :
    Calls Tryd.prog 15 #[.pointer (some ⟨g, 0, none⟩)] w fun e w' => e = .returned (.int .i64 (long : Int)) ∧ w' = w := by
  obtain ⟨hb, ho, hBg⟩ := h
  obtain ⟨hc0, hc1, hc2, hc3, hc4, hc5, hc6, hc7, hc8, hc9, hf0, hf1, hf2, hf3, hf4, hf5, hf6, hf7, hf8, hf9⟩ := blk_all10 hb
  clear hc0 hc1 hc2 hc3 hc4 hc5 hc6 hc7 hc8 hf0 hf1 hf2 hf3 hf4 hf5 hf6 hf7 hf8 hf9 ho hb
  go_enter Tryd.func15, Tryd.ntmps15
  go_wp2
  go_ret
  exact ⟨rfl, rfl⟩
theorem garretlaw02_ShaPieces.wf_i64 {a : Int} (h : (Lit.int .i64 a).wf = true) : -9223372036854775808 ≤ a ∧ a ≤ 9223372036854775807 := by
  simp [Lit.wf, IntKind.min, IntKind.max, IntKind.signed, IntKind.bits] at h
  omega
theorem garretlaw02_ShaPieces.built1 (W : World) (x : ByteArray) (t : TypeId) : Kd.C Kd.string (W.alloc (.cells #[.string x] t)) (some ⟨W.heap.size, 0, none⟩) 1 [x] := by
  refine ⟨rfl, by decide, fun _ => ⟨_, rfl, fun j p hj => ?_⟩⟩
  match j, hj with
  | 0, hj =>
    obtain rfl := Option.some.inj hj
    refine ⟨[.string x], rfl, rfl, fun i u hi => ?_⟩
    match i, hi with
    | 0, hi => obtain rfl := Option.some.inj hi; exact (blk_cell (blk_new W _) 0).trans rfl
    | i + 1, hi => simp at hi
  | j + 1, hj => simp at hj
theorem garretlaw02_ShaPieces.built2 (W : World) (x y : ByteArray) (t : TypeId) : Kd.C Kd.string (W.alloc (.cells #[.string x, .string y] t)) (some ⟨W.heap.size, 0, none⟩) 2 [x, y] := by
  refine ⟨rfl, by decide, fun _ => ⟨_, rfl, fun j p hj => ?_⟩⟩
  match j, hj with
  | 0, hj =>
    obtain rfl := Option.some.inj hj
    refine ⟨[.string x], rfl, rfl, fun i u hi => ?_⟩
    match i, hi with
    | 0, hi => obtain rfl := Option.some.inj hi; exact (blk_cell (blk_new W _) 0).trans rfl
    | i + 1, hi => simp at hi
  | 1, hj =>
    obtain rfl := Option.some.inj hj
    refine ⟨[.string y], rfl, rfl, fun i u hi => ?_⟩
    match i, hi with
    | 0, hi => obtain rfl := Option.some.inj hi; exact (blk_cell (blk_new W _) 1).trans rfl
    | i + 1, hi => simp at hi
  | j + 2, hj => simp at hj
theorem garretlaw02_ShaPieces.built1d (W : World) (x : ByteArray) (t : TypeId) : Kd.C Kd.string (W.alloc (.cells #[.string x] t)).drew (some ⟨W.heap.size, 0, none⟩) 1 [x] := garretlaw02_ShaPieces.built1 W x t
theorem garretlaw02_ShaPieces.built2d (W : World) (x y : ByteArray) (t : TypeId) : Kd.C Kd.string (W.alloc (.cells #[.string x, .string y] t)).drew (some ⟨W.heap.size, 0, none⟩) 2 [x, y] := garretlaw02_ShaPieces.built2 W x y t
theorem garretlaw02_ShaPieces.sum1 (A : Option Addr) (c : Nat) (x r : ByteArray) (w : World) (hr : Kd.C Kd.string w A 1 [x]) (hc : 1 ≤ c) (hL : Laid w) (h : sha_Sum.f [x] = some r) : Calls Tryd.prog 17 #[.slice A 1 c] w fun e w' => e = .returned (.string r) ∧ Below w.heap.size w w' := sha_Sum.calls A c [x] r w hr hc hL h
theorem garretlaw02_ShaPieces.sum2 (A : Option Addr) (c : Nat) (x y r : ByteArray) (w : World) (hr : Kd.C Kd.string w A 2 [x, y]) (hc : 2 ≤ c) (hL : Laid w) (h : sha_Sum.f [x, y] = some r) : Calls Tryd.prog 17 #[.slice A 2 c] w fun e w' => e = .returned (.string r) ∧ Below w.heap.size w w' := sha_Sum.calls A c [x, y] r w hr hc hL h
def garretlaw02_ShaPieces.T (w5 w' : World) : Prop := Below w5.heap.size w5 w'
theorem garretlaw02_ShaPieces.T_step {w X Y : World} (hb : Below X.heap.size X Y) (h : garretlaw02_ShaPieces.T w X) : garretlaw02_ShaPieces.T w Y := below_step h hb
theorem garretlaw02_ShaPieces.T_out {w X : World} (h : garretlaw02_ShaPieces.T w X) : Below w.heap.size w X := h
theorem garretlaw02_ShaPieces.T_drew {w X : World} (h : garretlaw02_ShaPieces.T w X) : garretlaw02_ShaPieces.T w X.drew := below_drew1 h
theorem garretlaw02_ShaPieces.T_drewN {w X : World} (h : garretlaw02_ShaPieces.T w X) (n : Nat) : garretlaw02_ShaPieces.T w (X.drewN n) := pw_below_drewN h n
theorem garretlaw02_ShaPieces.T_alloc {w X : World} (h : garretlaw02_ShaPieces.T w X) (o : Obj) : garretlaw02_ShaPieces.T w (X.alloc o) := below_alloc h o
theorem garretlaw02_ShaPieces.step' {w X Y : World} (hb : Below X.heap.size X Y) (h : Below w.heap.size w X) : Below w.heap.size w Y := below_step h hb
theorem garretlaw02_ShaPieces.sum_at (B g : Nat) (s : Sha.S8) (rest : List UInt8) (long : Nat) (rv : Value) (w5 X : World) (D : ByteArray) (hb : garretlaw02_ShaPieces.T w5 X) (hK : Sha.Consts w5) (h : Sha.HashAt B w5 g s rest long rv) (hlen : rest.length ≤ 1000000000000) (hlong : long ≤ 1000000000000000000) (hD : (⟨(Sha.fin s rest long).toArray⟩ : ByteArray) = D) :
    Calls Tryd.prog 13 #[.pointer (some ⟨g, 0, none⟩)] X fun e w' => e = .returned (.string D) ∧ Below X.heap.size X w' := by
  subst hD
  exact Sha.sum_calls B g s rest long rv X (hK.below hb) (h.below hb (Nat.le_refl _)) hlen hlong
set_option maxHeartbeats 2000000 in
set_option maxRecDepth 100000 in
theorem garretlaw02_ShaPieces.calls (a0 : ByteArray) (A1 : Option Addr) (c1 : Nat) (l1 : List Int) (r : Bool) (w : World) (hr1 : Kd.C (Kd.int .i64) w A1 l1.length l1) (hc1 : l1.length ≤ c1) (hL : Laid w) (h : garretlaw02_ShaPieces.f a0 l1 = some r) :
    Calls Tryd.prog 4 #[.string a0, .slice A1 l1.length c1] w fun e w' => e = .returned (.bool r) ∧ Below w.heap.size w w' := by
  unfold garretlaw02_ShaPieces.f at h
  by_cases hq : (∀ y ∈ l1, (Lit.int .i64 y).wf = true) ∧ garretlaw02_works.f = some true
  · rw [if_pos hq] at h
    obtain rfl := Option.some.inj h
    have HWF := Aside0.mk hq.1
    have HWK := Aside0.mk hq.2
    have HLAID := Aside0.mk hL
    have HK : Aside0 (Sha.Consts w) := ⟨hL⟩
    have HB0 := Aside0.mk (World.block_lt_of_cell? w _ (HK.out 0 (by decide)))
    have HR := Aside0.mk hr1
    have HC := Aside0.mk hc1
    have hmax := Kd.C_max hr1
    obtain ⟨n, hn⟩ : ∃ n, l1.length = n := ⟨_, rfl⟩
    rw [hn] at hmax HR ⊢
    have HN := Aside0.mk hn
    have HMX := Aside0.mk hmax
    clear h hq hr1 hL hc1 hn hmax
    by_cases hz : (a0.size : Int) > 1000
    · have d1 : decide (1000 < (a0.size : Int)) = true := decide_eq_true hz
      clear hz
      go_enter Tryd.func4, Tryd.ntmps4
      go_wp2_with (first
        | (go_at_call 9; (with_reducible refine (Sha.new_calls _).mono ?_); rintro e w1 ⟨⟨g, rfl, hh, hlt⟩, hb⟩; have HB := Aside0.mk hb; clear hh hb hlt)
        | (go_at_call 10; (with_reducible refine (garretlaw02_works.calls true _ (Laid.below HLAID.out HB.out) HWK.out).mono ?_); rintro e w2 ⟨rfl, hb⟩; have n0_ := Aside0.mk (below_step HB.out hb); clear HB hb; have HB := n0_; clear n0_))
      go_ret
      exact ⟨rfl, HB.out⟩
    · have d1 : decide (1000 < (a0.size : Int)) = false := decide_eq_false hz
      have HZ := Aside0.mk (show a0.size ≤ 1000 by omega)
      clear hz
      go_enter Tryd.func4, Tryd.ntmps4
      go_wp2_with (first
        | (go_at_call 9; (with_reducible refine (Sha.new_calls _).mono ?_); rintro e w1 ⟨⟨g, rfl, hh, hlt⟩, hb⟩; have HH := Aside0.mk hh; have HB := Aside0.mk hb; clear hh hb hlt)
        | (go_at_call 10; (with_reducible refine (garretlaw02_works.calls true _ (Laid.below HLAID.out HB.out) HWK.out).mono ?_); rintro e w2 ⟨rfl, hb⟩; have n0_ := Aside0.mk (below_step HB.out hb); have n1_ := Aside0.mk (HH.out.below hb (Nat.le_refl _)); clear HB HH hb; have HB := n0_; have HH := n1_; clear n0_ n1_))
      go_loopw [6, 7] (fun v6 v7 w' => ∃ (i : Nat) (t : ByteArray) (pre : List UInt8) (rv : Value), i ≤ n ∧ v6 = .string t ∧ v7 = .int .i64 (i : Int) ∧ Aside0 (pre ++ t.data.toList = a0.data.toList) ∧ Aside0 (Sha.HashAt w.heap.size w' g (Sha.eat Sha.init pre).1 (Sha.eat Sha.init pre).2 pre.length rv) ∧ Aside0 (Below w.heap.size w w')) (fun _ v7 _ => n - (intOf v7).toNat)
      case atStart => exact ⟨0, a0, [], _, Nat.zero_le _, rfl, rfl, ⟨rfl⟩, HH, HB⟩
      case round =>
        clear HH HB
        obtain ⟨i, t, pre, rv, hi, rfl, rfl, HP, HH, HB⟩ := hrel
        have HT : Aside0 (pre.length + t.size = a0.size) := ⟨by have h := congrArg List.length HP.out; rw [List.length_append, data_length, data_length] at h; exact h⟩
        have hrest := Sha.eat_left _ Sha.init pre (Nat.le_refl _)
        have HKW := Aside0.mk (HK.out.below HB.out)
        have HBW := Aside0.mk HB.out.size
        by_cases hlt : i < n
        · have d2 : decide ((i : Int) < (n : Int)) = true := decide_eq_true (by omega)
          by_cases h50 : i < 50
          · have d3 : decide ((i : Int) < 50) = true := decide_eq_true (by omega)
            have p1 : (i : Int) < (n : Int) := by omega
            have p0 : 0 ≤ (i : Int) := by omega
            have hl : i < l1.length := by rw [HN.out]; exact hlt
            obtain ⟨ad, cs, hA, hcl, hK, hcell⟩ := Kd.C_get (Kd.C_below HR.out HB.out) 0 (i : Int) p0 p1
            have hk : cs = [Value.int .i64 (l1.getD i 0)] := hK
            have hx : wr.cell? (ad.add i) = some (.int .i64 (l1.getD i 0)) := by
              have h := hcell 0 (.int .i64 (l1.getD i 0)) (by rw [hk]; rfl)
              simpa [Kd.int, Kd.scalar] using h
            have hwf : (Lit.int .i64 (l1.getD i 0)).wf = true := HWF.out _ (by rw [List.getD_eq_getElem?_getD, List.getElem?_eq_getElem hl]; exact List.getElem_mem _)
            generalize l1.getD i 0 = c at *
            obtain ⟨m, hm, hm2⟩ := garretlaw02_ShaPieces.among c ((t.size : Int) + 1) (by have := garretlaw02_ShaPieces.wf_i64 hwf; omega) (by have := garretlaw02_ShaPieces.wf_i64 hwf; omega) (by omega) (by have := HZ.out; have := HT.out; omega)
            have HAM := Aside0.mk hm
            have pm0 : (0 : Int) ≤ (m : Int) := by omega
            have pm1 : (m : Int) ≤ (t.size : Int) := by omega
            have hmt : m ≤ t.size := by omega
            have HJ := Aside0.mk (garretlaw02_ShaPieces.join t m hmt)
            have HS := Aside0.mk (show (t.extract 0 m).data.toList.length = (t.extract 0 m).size from data_length _)
            have HSM := Aside0.mk (show (t.extract 0 m).size = m by rw [ByteArray.size_extract]; omega)
            have HW1 := Aside0.mk (show (Sha.eat Sha.init pre).2.length + (t.extract 0 m).size ≤ 140737488355328 by rw [hrest, HSM.out]; have := HZ.out; have := HT.out; omega)
            have HW2 := Aside0.mk (show pre.length + (t.extract 0 m).size ≤ 9223372036854775807 by rw [HSM.out]; have := HZ.out; have := HT.out; omega)
            have HI := Aside0.mk (show i + 1 ≤ n by omega)
            have QI := Aside0.mk (show wrap64 ((i : Int) + 1) = ((i + 1 : Nat) : Int) by have := HMX.out; unfold wrap64; omega)
            have QT := Aside0.mk (show wrap64 ((t.size : Int) + 1) = (t.size : Int) + 1 by have := HZ.out; have := HT.out; unfold wrap64; omega)
            subst hA
            clear hm hm2 hwf hl hcl hK hcell hk hrest hmt hi hlt h50
            go_wp2_with (first
              | (go_at_call 20; (try rw [QT.out]); (with_reducible refine (garretbook_Among.calls c ((t.size : Int) + 1) (m : Int) _ HAM.out).mono ?_); rintro e w3 ⟨rfl, hd⟩; have n0_ := Aside0.mk (below_step HB.out hd.below); have n1_ := Aside0.mk (HH.out.below hd.below (Nat.le_refl _)); have n2_ := Aside0.mk (HKW.out.below hd.below); have n3_ := Aside0.mk (below_step HB.out hd.below).size; clear HB HH HKW HBW hd; have HB := n0_; have HH := n1_; have HKW := n2_; have HBW := n3_; clear n0_ n1_ n2_ n3_)
              | (go_at_call 12; (with_reducible refine (Sha.write_calls w.heap.size g _ _ _ rv (t.extract 0 m) _ HKW.out HH.out HB0.out HBW.out HW1.out HW2.out).mono ?_); rintro e w4 ⟨rfl, ⟨rv2, hh2, hat2⟩, hb2, hk2⟩; have HH2 := Aside0.mk hh2; have HB2 := Aside0.mk (HB.out.trans hb2); clear hh2 hat2 hb2 hk2 HH HB))
            clear d1 d2 d3 p1 p0 hx pm0 pm1
            rw [QI.out]
            refine ⟨?_, by simp [intOf]; have := HI.out; omega⟩
            exact ⟨i + 1, t.extract m t.size, pre ++ (t.extract 0 m).data.toList, rv2, HI.out, rfl, rfl, ⟨by rw [List.append_assoc, HJ.out]; exact HP.out⟩, ⟨by rw [Sha.eat_pieces, List.length_append, HS.out]; exact HH2.out⟩, HB2⟩
          · have d3 : decide ((i : Int) < 50) = false := decide_eq_false (by omega)
            have h51 : 50 ≤ i := by omega
            have h52 : (50 : Int) ≤ (i : Int) := by omega
            clear hi
            obtain ⟨m, hmm⟩ : ∃ m, t.size / 2 = m := ⟨_, rfl⟩
            have hmt : m ≤ t.size := by omega
            have hms : m ≤ a0.size := by have := HT.out; omega
            have hm2 : (t.size : Int) / 2 = (m : Int) := by omega
            have hts : t.size ≤ 1000 := by have := HZ.out; have := HT.out; omega
            have HM2 := Aside0.mk hm2
            have HJ := Aside0.mk (garretlaw02_ShaPieces.join t m hmt)
            have HS1 := Aside0.mk (show (t.extract 0 m).data.toList.length = (t.extract 0 m).size from data_length _)
            have HSM1 := Aside0.mk (show (t.extract 0 m).size = m by rw [ByteArray.size_extract]; omega)
            have HSM2 := Aside0.mk (show (t.extract m t.size).size = t.size - m by rw [ByteArray.size_extract]; omega)
            have HW1 := Aside0.mk (show (Sha.eat Sha.init pre).2.length + (t.extract 0 m).size ≤ 140737488355328 by rw [hrest, HSM1.out]; have := HZ.out; have := HT.out; omega)
            have HW2 := Aside0.mk (show pre.length + (t.extract 0 m).size ≤ 9223372036854775807 by rw [HSM1.out]; have := HZ.out; have := HT.out; omega)
            have hrest2 := Sha.eat_left _ Sha.init (pre ++ (t.extract 0 m).data.toList) (Nat.le_refl _)
            have HE2 := Aside0.mk (Sha.eat_pieces Sha.init pre (t.extract 0 m).data.toList)
            have HL2 := Aside0.mk (show (pre ++ (t.extract 0 m).data.toList).length = pre.length + (t.extract 0 m).size by rw [List.length_append, HS1.out])
            have HW3 := Aside0.mk (show (Sha.eat Sha.init (pre ++ (t.extract 0 m).data.toList)).2.length + (t.extract m t.size).size ≤ 140737488355328 by rw [hrest2, HSM2.out]; have := HZ.out; have := HT.out; omega)
            have HW4 := Aside0.mk (show (pre ++ (t.extract 0 m).data.toList).length + (t.extract m t.size).size ≤ 9223372036854775807 by rw [HL2.out, HSM1.out, HSM2.out]; have := HZ.out; have := HT.out; omega)
            have HALL : Aside0 ((pre ++ (t.extract 0 m).data.toList) ++ (t.extract m t.size).data.toList = a0.data.toList) := ⟨by rw [List.append_assoc, HJ.out]; exact HP.out⟩
            have HLA := Aside0.mk (show (pre ++ (t.extract 0 m).data.toList).length + (t.extract m t.size).size = a0.size by rw [HL2.out, HSM1.out, HSM2.out]; have := HT.out; omega)
            have pm0 : (0 : Int) ≤ (m : Int) := by omega
            have pm1 : (m : Int) ≤ (t.size : Int) := by omega
            clear hrest hrest2 hmm hm2
            go_upto_region 14 with fail
            rw [HM2.out]
            go_upto_region 16 with (first
              | (go_at_call 12; (with_reducible refine (Sha.write_calls w.heap.size g _ _ _ rv (t.extract 0 m) _ HKW.out HH.out HB0.out HBW.out HW1.out HW2.out).mono ?_); rintro e w4 ⟨rfl, ⟨rv2, hh2, hat2⟩, hb2, hk2⟩; (have h3 := hh2); (rw [← HE2.out, ← HL2.out] at h3); have HH2 := Aside0.mk h3; have HB2 := Aside0.mk (HB.out.trans hb2); have HKW2 := Aside0.mk (HK.out.below (HB.out.trans hb2)); clear hh2 hat2 hb2 hk2 HH HB h3)
              | (go_at_call 12; (with_reducible refine (Sha.write_calls w.heap.size g _ _ _ rv2 (t.extract m t.size) _ HKW2.out HH2.out HB0.out HB2.out.size HW3.out HW4.out).mono ?_); rintro e w5 ⟨rfl, ⟨rv3, hh3, hat3⟩, hb3, hk3⟩; (have h3 := hh3); (rw [← Sha.eat_pieces, HALL.out, HLA.out] at h3); have HH3 := Aside0.mk h3; have HB3 := Aside0.mk (HB2.out.trans hb3); have HKW3 := Aside0.mk (HK.out.below (HB2.out.trans hb3)); clear hh3 hat3 hb3 hk3 HH2 HB2 h3))
            have hD : ∃ D : ByteArray, D = ⟨(Sha.digest a0.data.toList).toArray⟩ := ⟨_, rfl⟩
            obtain ⟨D, hD⟩ := hD
            have HQ1 := Aside0.mk (show (Sha.eat Sha.init a0.data.toList).2.length ≤ 1000000000000 by rw [Sha.eat_left _ _ _ (Nat.le_refl _)]; omega)
            have HQ2 := Aside0.mk (show a0.size ≤ 1000000000000000000 by have := HZ.out; omega)
            have HFIN : Aside0 ((⟨(Sha.fin (Sha.eat Sha.init a0.data.toList).1 (Sha.eat Sha.init a0.data.toList).2 a0.size).toArray⟩ : ByteArray) = D) := ⟨by rw [hD, Sha.digest, data_length]⟩
            have HJA := garretlaw02_ShaPieces.join a0 m hms
            have HS1' : Aside0 (sha_Sum.f [a0] = some D) := ⟨by unfold sha_Sum.f; rw [if_pos (by simp only [sha_Sum.cat, List.map_cons, List.map_nil, List.flatten_cons, List.flatten_nil, List.append_nil]; rw [data_length]; have := HZ.out; omega), hD]; simp only [sha_Sum.cat, List.map_cons, List.map_nil, List.flatten_cons, List.flatten_nil, List.append_nil]⟩
            have HS2' : Aside0 (sha_Sum.f [a0.extract 0 m, a0.extract m a0.size] = some D) := ⟨by unfold sha_Sum.f; rw [if_pos (by simp only [sha_Sum.cat, List.map_cons, List.map_nil, List.flatten_cons, List.flatten_nil, List.append_nil]; rw [HJA, data_length]; have := HZ.out; omega), hD]; simp only [sha_Sum.cat, List.map_cons, List.map_nil, List.flatten_cons, List.flatten_nil, List.append_nil]; rw [HJA]⟩
            have HID : Aside0 (sha_IsId.f D = some true) := ⟨by rw [hD]; show some (((Sha.digest a0.data.toList).length : Int) == 32) = some true; rw [Sha.digest_length]; rfl⟩
            have HX : Aside0 (Below w5.heap.size w5 w5) := ⟨Below.refl _ _⟩
            have HROW : Aside0 True := ⟨trivial⟩
            have HL5 : Aside0 (Laid w5) := ⟨Laid.below HLAID.out HB3.out⟩
            have qm0 : (m : Int) ≤ (a0.size : Int) := by omega
            clear hD HJA
            have hT : garretlaw02_ShaPieces.T w5 w5 := Below.refl _ _
            clear HX HROW
            have HROW : Aside0 True := ⟨trivial⟩
            go_region_held3 (fun w' => garretlaw02_ShaPieces.T w5 w') (first | assumption | (exact garretlaw02_ShaPieces.T_step (by assumption) (by (with_reducible repeat (first | assumption | refine garretlaw02_ShaPieces.T_alloc ?_ _ | refine garretlaw02_ShaPieces.T_drew ?_ | refine garretlaw02_ShaPieces.T_drewN ?_ _)))) | (with_reducible repeat (first | assumption | refine garretlaw02_ShaPieces.T_alloc ?_ _ | refine garretlaw02_ShaPieces.T_drew ?_ | refine garretlaw02_ShaPieces.T_drewN ?_ _)))
              (first
                | (go_at_call 13; (with_reducible refine (garretlaw02_ShaPieces.sum_at w.heap.size g _ _ _ rv3 w5 _ D (show garretlaw02_ShaPieces.T w5 _ by (with_reducible repeat (first | assumption | refine garretlaw02_ShaPieces.T_alloc ?_ _ | refine garretlaw02_ShaPieces.T_drew ?_ | refine garretlaw02_ShaPieces.T_drewN ?_ _))) HKW3.out HH3.out HQ1.out HQ2.out HFIN.out).mono ?_); rintro e w6 ⟨rfl, hb⟩; (first | (have r_ := Aside0.mk (Kd.C_below (garretlaw02_ShaPieces.built1 _ a0 _) (by with_reducible exact hb))) | (have r_ := Aside0.mk (Kd.C_below (garretlaw02_ShaPieces.built1d _ a0 _) (by with_reducible exact hb))) | (have r_ := Aside0.mk (Kd.C_below (garretlaw02_ShaPieces.built2d _ (a0.extract 0 m) (a0.extract m a0.size) _) (by with_reducible exact hb))) | (have r_ := Aside0.mk (Kd.C_below (garretlaw02_ShaPieces.built2 _ (a0.extract 0 m) (a0.extract m a0.size) _) (by with_reducible exact hb))) | (have r_ : Aside0 True := ⟨trivial⟩)); clear HROW; have HROW := r_; clear r_)
                | (go_at_call 17; (first | (with_reducible refine (garretlaw02_ShaPieces.sum1 _ _ a0 D _ ?r (Nat.le_refl _) ?l HS1'.out).mono ?_) | (with_reducible refine (garretlaw02_ShaPieces.sum2 _ _ (a0.extract 0 m) (a0.extract m a0.size) D _ ?r (Nat.le_refl _) ?l HS2'.out).mono ?_)); (case l => exact Laid.below HL5.out (garretlaw02_ShaPieces.T_out (show garretlaw02_ShaPieces.T w5 _ by (with_reducible repeat (first | assumption | refine garretlaw02_ShaPieces.T_alloc ?_ _ | refine garretlaw02_ShaPieces.T_drew ?_ | refine garretlaw02_ShaPieces.T_drewN ?_ _))))); (case r => with_reducible first | exact HROW.out | exact garretlaw02_ShaPieces.built1 _ _ _ | exact garretlaw02_ShaPieces.built2 _ _ _ _ | exact garretlaw02_ShaPieces.built1d _ _ _ | exact garretlaw02_ShaPieces.built2d _ _ _ _); rintro e w6 ⟨rfl, hb⟩; clear HROW; have HROW : Aside0 True := ⟨trivial⟩)
                | (go_at_call 15; (with_reducible refine (garretlaw02_ShaPieces.len_calls w.heap.size g _ _ a0.size rv3 _ (HH3.out.below (B2 := w5.heap.size) (garretlaw02_ShaPieces.T_out (show garretlaw02_ShaPieces.T w5 _ by (with_reducible repeat (first | assumption | refine garretlaw02_ShaPieces.T_alloc ?_ _ | refine garretlaw02_ShaPieces.T_drew ?_ | refine garretlaw02_ShaPieces.T_drewN ?_ _)))) (Nat.le_refl _))).mono ?_); rintro e w6 ⟨rfl, rfl⟩)
                | (go_at_call 21; (refine (sha_IsId.calls D true _ HID.out).mono ?_); rintro e w6 ⟨rfl, hd⟩; have hb := hd.below; clear hd))
            all_goals go_wp2
            all_goals go_ret
            all_goals exact ⟨rfl, below_step HB3.out (garretlaw02_ShaPieces.T_out (by assumption))⟩
        · have d2 : decide ((i : Int) < (n : Int)) = false := decide_eq_false (by omega)
          clear hi
          obtain ⟨m, hmm⟩ : ∃ m, t.size / 2 = m := ⟨_, rfl⟩
          have hmt : m ≤ t.size := by omega
          have hms : m ≤ a0.size := by have := HT.out; omega
          have hm2 : (t.size : Int) / 2 = (m : Int) := by omega
          have hts : t.size ≤ 1000 := by have := HZ.out; have := HT.out; omega
          have HM2 := Aside0.mk hm2
          have HJ := Aside0.mk (garretlaw02_ShaPieces.join t m hmt)
          have HS1 := Aside0.mk (show (t.extract 0 m).data.toList.length = (t.extract 0 m).size from data_length _)
          have HSM1 := Aside0.mk (show (t.extract 0 m).size = m by rw [ByteArray.size_extract]; omega)
          have HSM2 := Aside0.mk (show (t.extract m t.size).size = t.size - m by rw [ByteArray.size_extract]; omega)
          have HW1 := Aside0.mk (show (Sha.eat Sha.init pre).2.length + (t.extract 0 m).size ≤ 140737488355328 by rw [hrest, HSM1.out]; have := HZ.out; have := HT.out; omega)
          have HW2 := Aside0.mk (show pre.length + (t.extract 0 m).size ≤ 9223372036854775807 by rw [HSM1.out]; have := HZ.out; have := HT.out; omega)
          have hrest2 := Sha.eat_left _ Sha.init (pre ++ (t.extract 0 m).data.toList) (Nat.le_refl _)
          have HE2 := Aside0.mk (Sha.eat_pieces Sha.init pre (t.extract 0 m).data.toList)
          have HL2 := Aside0.mk (show (pre ++ (t.extract 0 m).data.toList).length = pre.length + (t.extract 0 m).size by rw [List.length_append, HS1.out])
          have HW3 := Aside0.mk (show (Sha.eat Sha.init (pre ++ (t.extract 0 m).data.toList)).2.length + (t.extract m t.size).size ≤ 140737488355328 by rw [hrest2, HSM2.out]; have := HZ.out; have := HT.out; omega)
          have HW4 := Aside0.mk (show (pre ++ (t.extract 0 m).data.toList).length + (t.extract m t.size).size ≤ 9223372036854775807 by rw [HL2.out, HSM1.out, HSM2.out]; have := HZ.out; have := HT.out; omega)
          have HALL : Aside0 ((pre ++ (t.extract 0 m).data.toList) ++ (t.extract m t.size).data.toList = a0.data.toList) := ⟨by rw [List.append_assoc, HJ.out]; exact HP.out⟩
          have HLA := Aside0.mk (show (pre ++ (t.extract 0 m).data.toList).length + (t.extract m t.size).size = a0.size by rw [HL2.out, HSM1.out, HSM2.out]; have := HT.out; omega)
          have pm0 : (0 : Int) ≤ (m : Int) := by omega
          have pm1 : (m : Int) ≤ (t.size : Int) := by omega
          clear hrest hrest2 hmm hm2
          go_upto_region 14 with fail
          rw [HM2.out]
          go_upto_region 16 with (first
            | (go_at_call 12; (with_reducible refine (Sha.write_calls w.heap.size g _ _ _ rv (t.extract 0 m) _ HKW.out HH.out HB0.out HBW.out HW1.out HW2.out).mono ?_); rintro e w4 ⟨rfl, ⟨rv2, hh2, hat2⟩, hb2, hk2⟩; (have h3 := hh2); (rw [← HE2.out, ← HL2.out] at h3); have HH2 := Aside0.mk h3; have HB2 := Aside0.mk (HB.out.trans hb2); have HKW2 := Aside0.mk (HK.out.below (HB.out.trans hb2)); clear hh2 hat2 hb2 hk2 HH HB h3)
            | (go_at_call 12; (with_reducible refine (Sha.write_calls w.heap.size g _ _ _ rv2 (t.extract m t.size) _ HKW2.out HH2.out HB0.out HB2.out.size HW3.out HW4.out).mono ?_); rintro e w5 ⟨rfl, ⟨rv3, hh3, hat3⟩, hb3, hk3⟩; (have h3 := hh3); (rw [← Sha.eat_pieces, HALL.out, HLA.out] at h3); have HH3 := Aside0.mk h3; have HB3 := Aside0.mk (HB2.out.trans hb3); have HKW3 := Aside0.mk (HK.out.below (HB2.out.trans hb3)); clear hh3 hat3 hb3 hk3 HH2 HB2 h3))
          have hD : ∃ D : ByteArray, D = ⟨(Sha.digest a0.data.toList).toArray⟩ := ⟨_, rfl⟩
          obtain ⟨D, hD⟩ := hD
          have HQ1 := Aside0.mk (show (Sha.eat Sha.init a0.data.toList).2.length ≤ 1000000000000 by rw [Sha.eat_left _ _ _ (Nat.le_refl _)]; omega)
          have HQ2 := Aside0.mk (show a0.size ≤ 1000000000000000000 by have := HZ.out; omega)
          have HFIN : Aside0 ((⟨(Sha.fin (Sha.eat Sha.init a0.data.toList).1 (Sha.eat Sha.init a0.data.toList).2 a0.size).toArray⟩ : ByteArray) = D) := ⟨by rw [hD, Sha.digest, data_length]⟩
          have HJA := garretlaw02_ShaPieces.join a0 m hms
          have HS1' : Aside0 (sha_Sum.f [a0] = some D) := ⟨by unfold sha_Sum.f; rw [if_pos (by simp only [sha_Sum.cat, List.map_cons, List.map_nil, List.flatten_cons, List.flatten_nil, List.append_nil]; rw [data_length]; have := HZ.out; omega), hD]; simp only [sha_Sum.cat, List.map_cons, List.map_nil, List.flatten_cons, List.flatten_nil, List.append_nil]⟩
          have HS2' : Aside0 (sha_Sum.f [a0.extract 0 m, a0.extract m a0.size] = some D) := ⟨by unfold sha_Sum.f; rw [if_pos (by simp only [sha_Sum.cat, List.map_cons, List.map_nil, List.flatten_cons, List.flatten_nil, List.append_nil]; rw [HJA, data_length]; have := HZ.out; omega), hD]; simp only [sha_Sum.cat, List.map_cons, List.map_nil, List.flatten_cons, List.flatten_nil, List.append_nil]; rw [HJA]⟩
          have HID : Aside0 (sha_IsId.f D = some true) := ⟨by rw [hD]; show some (((Sha.digest a0.data.toList).length : Int) == 32) = some true; rw [Sha.digest_length]; rfl⟩
          have HX : Aside0 (Below w5.heap.size w5 w5) := ⟨Below.refl _ _⟩
          have HROW : Aside0 True := ⟨trivial⟩
          have HL5 : Aside0 (Laid w5) := ⟨Laid.below HLAID.out HB3.out⟩
          have qm0 : (m : Int) ≤ (a0.size : Int) := by omega
          clear hD HJA
          have hT : garretlaw02_ShaPieces.T w5 w5 := Below.refl _ _
          clear HX HROW
          have HROW : Aside0 True := ⟨trivial⟩
          go_region_held3 (fun w' => garretlaw02_ShaPieces.T w5 w') (first | assumption | (exact garretlaw02_ShaPieces.T_step (by assumption) (by (with_reducible repeat (first | assumption | refine garretlaw02_ShaPieces.T_alloc ?_ _ | refine garretlaw02_ShaPieces.T_drew ?_ | refine garretlaw02_ShaPieces.T_drewN ?_ _)))) | (with_reducible repeat (first | assumption | refine garretlaw02_ShaPieces.T_alloc ?_ _ | refine garretlaw02_ShaPieces.T_drew ?_ | refine garretlaw02_ShaPieces.T_drewN ?_ _)))
            (first
              | (go_at_call 13; (with_reducible refine (garretlaw02_ShaPieces.sum_at w.heap.size g _ _ _ rv3 w5 _ D (show garretlaw02_ShaPieces.T w5 _ by (with_reducible repeat (first | assumption | refine garretlaw02_ShaPieces.T_alloc ?_ _ | refine garretlaw02_ShaPieces.T_drew ?_ | refine garretlaw02_ShaPieces.T_drewN ?_ _))) HKW3.out HH3.out HQ1.out HQ2.out HFIN.out).mono ?_); rintro e w6 ⟨rfl, hb⟩; (first | (have r_ := Aside0.mk (Kd.C_below (garretlaw02_ShaPieces.built1 _ a0 _) (by with_reducible exact hb))) | (have r_ := Aside0.mk (Kd.C_below (garretlaw02_ShaPieces.built1d _ a0 _) (by with_reducible exact hb))) | (have r_ := Aside0.mk (Kd.C_below (garretlaw02_ShaPieces.built2d _ (a0.extract 0 m) (a0.extract m a0.size) _) (by with_reducible exact hb))) | (have r_ := Aside0.mk (Kd.C_below (garretlaw02_ShaPieces.built2 _ (a0.extract 0 m) (a0.extract m a0.size) _) (by with_reducible exact hb))) | (have r_ : Aside0 True := ⟨trivial⟩)); clear HROW; have HROW := r_; clear r_)
              | (go_at_call 17; (first | (with_reducible refine (garretlaw02_ShaPieces.sum1 _ _ a0 D _ ?r (Nat.le_refl _) ?l HS1'.out).mono ?_) | (with_reducible refine (garretlaw02_ShaPieces.sum2 _ _ (a0.extract 0 m) (a0.extract m a0.size) D _ ?r (Nat.le_refl _) ?l HS2'.out).mono ?_)); (case l => exact Laid.below HL5.out (garretlaw02_ShaPieces.T_out (show garretlaw02_ShaPieces.T w5 _ by (with_reducible repeat (first | assumption | refine garretlaw02_ShaPieces.T_alloc ?_ _ | refine garretlaw02_ShaPieces.T_drew ?_ | refine garretlaw02_ShaPieces.T_drewN ?_ _))))); (case r => with_reducible first | exact HROW.out | exact garretlaw02_ShaPieces.built1 _ _ _ | exact garretlaw02_ShaPieces.built2 _ _ _ _ | exact garretlaw02_ShaPieces.built1d _ _ _ | exact garretlaw02_ShaPieces.built2d _ _ _ _); rintro e w6 ⟨rfl, hb⟩; clear HROW; have HROW : Aside0 True := ⟨trivial⟩)
              | (go_at_call 15; (with_reducible refine (garretlaw02_ShaPieces.len_calls w.heap.size g _ _ a0.size rv3 _ (HH3.out.below (B2 := w5.heap.size) (garretlaw02_ShaPieces.T_out (show garretlaw02_ShaPieces.T w5 _ by (with_reducible repeat (first | assumption | refine garretlaw02_ShaPieces.T_alloc ?_ _ | refine garretlaw02_ShaPieces.T_drew ?_ | refine garretlaw02_ShaPieces.T_drewN ?_ _)))) (Nat.le_refl _))).mono ?_); rintro e w6 ⟨rfl, rfl⟩)
              | (go_at_call 21; (refine (sha_IsId.calls D true _ HID.out).mono ?_); rintro e w6 ⟨rfl, hd⟩; have hb := hd.below; clear hd))
          all_goals go_wp2
          all_goals go_ret
          all_goals exact ⟨rfl, below_step HB3.out (garretlaw02_ShaPieces.T_out (by assumption))⟩
  · rw [if_neg hq] at h
    cases h

def garretlaw02_ShaPieces.Pure : Prop := ∀ (a0 : ByteArray) (l1 : List Int), (a0.size ≤ 140737488351232) → (l1.length ≤ maxLen ∧ l1.length * 8 ≤ 140737488351232 ∧ ∀ l1y ∈ l1, (Lit.int .i64 l1y).wf = true) → garretlaw02_ShaPieces.f a0 l1 = some true
theorem garretlaw02_ShaPieces.walk (P : garretlaw02_ShaPieces.Pure) (a0 : ByteArray) (A1 : Option Addr) (c1 : Nat) (l1 : List Int) (w : World) (hr1 : Kd.C (Kd.int .i64) w A1 l1.length l1) (hc1 : l1.length ≤ c1) (hL : Laid w) (o0 : (a0.size ≤ 140737488351232)) (o1 : (l1.length ≤ maxLen ∧ l1.length * 8 ≤ 140737488351232 ∧ ∀ l1y ∈ l1, (Lit.int .i64 l1y).wf = true)) :
    Calls Tryd.prog 4 #[.string a0, .slice A1 l1.length c1] w fun e w' => e = .returned (.bool true) ∧ Below w.heap.size w w' := by
  have h := P a0 l1 o0 o1
  refine (garretlaw02_ShaPieces.calls a0 A1 c1 l1 true w hr1 hc1 hL h).mono ?_
  rintro e w' ⟨rfl, hd⟩
  exact ⟨rfl, hd⟩
end Go.Proofs.YtdfhffhnioamhaaDoor.QShaC
