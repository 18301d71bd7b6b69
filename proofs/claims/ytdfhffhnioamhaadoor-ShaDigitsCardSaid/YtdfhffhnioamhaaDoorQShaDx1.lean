-- Written for this claim by a program of this session.
import Derived.Test.YtdfhffhnioamhaaDoorQShaDx0
namespace Go.Proofs.YtdfhffhnioamhaaDoor.QShaD
open Go.RowKit Go.Proofs.YtdfhffhnioamhaaDoorW.PrintWords Go.Proofs.YtdfhffhnioamhaaDoorW.PrintLast Go.Proofs.YtdfhffhnioamhaaDoorW.PrintMore
attribute [local go_sem] max2_int min2_int max_two min_two max_three min_three max_four min_four   -- for this text's walks alone
set_option linter.unusedVariables false
set_option linter.unusedSimpArgs false

/-! ### sha_Sum: function 17, by hand -/
def sha_Sum.cat (l : List ByteArray) : List UInt8 := (l.map (·.data.toList)).flatten
def sha_Sum.f (l0 : List ByteArray) : Option ByteArray := if (sha_Sum.cat l0).length ≤ 1000000000000 then some ⟨(Sha.digest (sha_Sum.cat l0)).toArray⟩ else none
theorem sha_Sum.cat_take (l : List ByteArray) (i : Nat) (hi : i < l.length) : sha_Sum.cat (l.take (i + 1)) = sha_Sum.cat (l.take i) ++ (l.getD i ByteArray.empty).data.toList := by
  unfold sha_Sum.cat
  rw [List.take_succ_eq_append_getElem hi, List.map_append, List.flatten_append]
  congr 1
  simp [List.getD_eq_getElem?_getD, List.getElem?_eq_getElem hi]
theorem sha_Sum.cat_le (l : List ByteArray) (i : Nat) : (sha_Sum.cat (l.take i)).length ≤ (sha_Sum.cat l).length := by
  have h : sha_Sum.cat l = sha_Sum.cat (l.take i) ++ sha_Sum.cat (l.drop i) := by
    unfold sha_Sum.cat
    rw [← List.flatten_append, ← List.map_append, List.take_append_drop]
  rw [h, List.length_append]; omega
set_option maxHeartbeats 1000000 in
set_option maxRecDepth 100000 in
theorem sha_Sum.calls (A0 : Option Addr) (c0 : Nat) (l0 : List ByteArray) (r : ByteArray) (w : World) (hr0 : Kd.C Kd.string w A0 l0.length l0) (hc0 : l0.length ≤ c0) (hL : Laid w) (h : sha_Sum.f l0 = some r) :
    Calls Tryd.prog 17 #[.slice A0 l0.length c0] w fun e w' => e = .returned (.string r) ∧ Below w.heap.size w w' := by
  unfold sha_Sum.f at h
  by_cases hz : (sha_Sum.cat l0).length ≤ 1000000000000
  · rw [if_pos hz] at h
    obtain rfl := Option.some.inj h
    have HZ := Aside0.mk hz
    have HR := Aside0.mk hr0
    have HK : Aside0 (Sha.Consts w) := ⟨hL⟩
    have HB0 := Aside0.mk (World.block_lt_of_cell? w _ (HK.out 0 (by decide)))
    have HC := Aside0.mk hc0
    have hmax := Kd.C_max hr0
    obtain ⟨n, hn⟩ : ∃ n, l0.length = n := ⟨_, rfl⟩
    rw [hn] at hmax HR ⊢
    have HN := Aside0.mk hn
    have HMX := Aside0.mk hmax
    clear h hz hr0 hL hc0 hn hmax
    go_enter Tryd.func17, Tryd.ntmps17
    go_wp2_with (first | (go_at_call 9; (with_reducible refine (Sha.new_calls _).mono ?_); rintro e w1 ⟨⟨g, rfl, hh, hlt⟩, hb⟩; have HH := Aside0.mk hh; have HB := Aside0.mk hb; clear hh hb hlt))
    go_loopw [9] (fun v9 w' => ∃ (i : Nat) (rv : Value), i ≤ n ∧ v9 = .int .i64 (i : Int) ∧ Aside0 (Sha.HashAt w.heap.size w' g (Sha.eat Sha.init (sha_Sum.cat (l0.take i))).1 (Sha.eat Sha.init (sha_Sum.cat (l0.take i))).2 (sha_Sum.cat (l0.take i)).length rv) ∧ Aside0 (Below w.heap.size w w')) (fun v9 _ => n - (intOf v9).toNat)
    case atStart =>
      have h0 : sha_Sum.cat (l0.take 0) = [] := by simp [sha_Sum.cat]
      refine ⟨0, .slice none 0 0, Nat.zero_le _, rfl, ?_, HB⟩
      rw [h0]
      exact HH
    case round =>
      clear HH HB
      obtain ⟨i, rv, hi, rfl, HH, HB⟩ := hrel
      have hrest := Sha.eat_left _ Sha.init (sha_Sum.cat (l0.take i)) (Nat.le_refl _)
      have hle := sha_Sum.cat_le l0 i
      have HKW := Aside0.mk (HK.out.below HB.out)
      by_cases hlt : i < n
      · have d1 : decide ((i : Int) < (n : Int)) = true := decide_eq_true (by omega)
        have p1 : (i : Int) < (n : Int) := by omega
        have p0 : 0 ≤ (i : Int) := by omega
        have hl : i < l0.length := by rw [HN.out]; exact hlt
        obtain ⟨ad, cs, hA, hcl, hK, hcell⟩ := Kd.C_get (Kd.C_below HR.out HB.out) ByteArray.empty (i : Int) p0 (by rw [← HN.out] at p1 ⊢; omega)
        have hk : cs = [Value.string (l0.getD i ByteArray.empty)] := hK
        have hx : wr.cell? (ad.add i) = some (.string (l0.getD i ByteArray.empty)) := by
          have h := hcell 0 (.string (l0.getD i ByteArray.empty)) (by rw [hk]; rfl)
          simpa [Kd.string, Kd.scalar] using h
        have hct := sha_Sum.cat_take l0 i hl
        have hle2 := sha_Sum.cat_le l0 (i + 1)
        generalize l0.getD i ByteArray.empty = x at *
        have hxs : x.data.toList.length = x.size := by rw [Array.length_toList]; rfl
        rw [hct, List.length_append, hxs] at hle2
        have HW1 := Aside0.mk (show (Sha.eat Sha.init (sha_Sum.cat (l0.take i))).2.length + x.size ≤ 140737488355328 by rw [hrest]; have := HZ.out; omega)
        have HW2 := Aside0.mk (show (sha_Sum.cat (l0.take i)).length + x.size ≤ 9223372036854775807 by have := HZ.out; omega)
        have HCT : Aside0 (Sha.eat Sha.init (sha_Sum.cat (l0.take (i + 1))) = Sha.eat (Sha.eat Sha.init (sha_Sum.cat (l0.take i))).1 ((Sha.eat Sha.init (sha_Sum.cat (l0.take i))).2 ++ x.data.toList)) := ⟨by rw [hct, Sha.eat_pieces]⟩
        have HCL : Aside0 ((sha_Sum.cat (l0.take (i + 1))).length = (sha_Sum.cat (l0.take i)).length + x.size) := ⟨by rw [hct, List.length_append, hxs]⟩
        have HI := Aside0.mk (show i + 1 ≤ n by omega)
        have QI := Aside0.mk (show wrap64 ((i : Int) + 1) = ((i + 1 : Nat) : Int) by have := HMX.out; unfold wrap64; omega)
        have HBW := Aside0.mk HB.out.size
        subst hA
        clear hrest hle hlt hl hcl hK hcell hk hct hle2 hxs hi
        go_wp2_with (first | (go_at_call 12; (with_reducible refine (Sha.write_calls w.heap.size g _ _ _ rv x _ HKW.out HH.out HB0.out HBW.out HW1.out HW2.out).mono ?_); rintro e w2 ⟨rfl, ⟨rv2, hh2, hat2⟩, hb2, hk2⟩; have HH2 := Aside0.mk hh2; have HB2 := Aside0.mk (HB.out.trans hb2); clear hh2 hat2 hb2 hk2 HH HB))
        clear d1 p1 p0 hx
        rw [QI.out]
        refine ⟨?_, by simp [intOf]; have := HI.out; omega⟩
        exact ⟨i + 1, rv2, HI.out, rfl, by rw [HCT.out, HCL.out]; exact HH2, HB2⟩
      · obtain rfl : i = n := by omega
        have d1 : decide ((i : Int) < (i : Int)) = false := decide_eq_false (by omega)
        have hall : l0.take i = l0 := List.take_of_length_le (by rw [HN.out]; exact Nat.le_refl _)
        rw [hall] at HH hrest
        have HW1 := Aside0.mk (show (Sha.eat Sha.init (sha_Sum.cat l0)).2.length ≤ 1000000000000 by rw [hrest]; omega)
        have HW2 := Aside0.mk (show (sha_Sum.cat l0).length ≤ 1000000000000000000 by have := HZ.out; omega)
        clear hall hrest hle hi hlt
        go_wp2_with (first | (go_at_call 13; (with_reducible refine (Sha.sum_calls w.heap.size g _ _ _ rv _ HKW.out HH.out HW1.out HW2.out).mono ?_); rintro e w2 ⟨rfl, hb2⟩; have HB2 := Aside0.mk (HB.out.trans (hb2.mono HB.out.size)); clear hb2))
        go_ret
        exact ⟨rfl, HB2.out⟩
  · rw [if_neg hz] at h
    cases h

/-! ### sha_Hex: function 22, by hand -/
def sha_Hex.hd (n : Nat) : UInt8 := [48, 49, 50, 51, 52, 53, 54, 55, 56, 57, 97, 98, 99, 100, 101, 102].getD n 0
def sha_Hex.hex (l : List UInt8) : List UInt8 := l.flatMap fun b => [sha_Hex.hd (b.toNat / 16), sha_Hex.hd (b.toNat % 16)]
def sha_Hex.f (a0 : ByteArray) : Option ByteArray := if a0.size ≤ 1000000000000 then some ⟨(sha_Hex.hex a0.data.toList).toArray⟩ else none
theorem sha_Hex.hex_length (l : List UInt8) : (sha_Hex.hex l).length = 2 * l.length := by
  induction l with
  | nil => rfl
  | cons b l ih => simp only [sha_Hex.hex, List.flatMap_cons, List.length_append, List.length_cons, List.length_nil] at ih ⊢; omega
theorem sha_Hex.ix0 (W : World) : (Instr.index 9 (.string ⟨#[48, 49, 50, 51, 52, 53, 54, 55, 56, 57, 97, 98, 99, 100, 101, 102]⟩) (.int .u8 0)).run Tryd.prog W = .ok (.int .u8 48) W := by kernel_rfl
theorem sha_Hex.ix1 (W : World) : (Instr.index 9 (.string ⟨#[48, 49, 50, 51, 52, 53, 54, 55, 56, 57, 97, 98, 99, 100, 101, 102]⟩) (.int .u8 1)).run Tryd.prog W = .ok (.int .u8 49) W := by kernel_rfl
theorem sha_Hex.ix2 (W : World) : (Instr.index 9 (.string ⟨#[48, 49, 50, 51, 52, 53, 54, 55, 56, 57, 97, 98, 99, 100, 101, 102]⟩) (.int .u8 2)).run Tryd.prog W = .ok (.int .u8 50) W := by kernel_rfl
theorem sha_Hex.ix3 (W : World) : (Instr.index 9 (.string ⟨#[48, 49, 50, 51, 52, 53, 54, 55, 56, 57, 97, 98, 99, 100, 101, 102]⟩) (.int .u8 3)).run Tryd.prog W = .ok (.int .u8 51) W := by kernel_rfl
theorem sha_Hex.ix4 (W : World) : (Instr.index 9 (.string ⟨#[48, 49, 50, 51, 52, 53, 54, 55, 56, 57, 97, 98, 99, 100, 101, 102]⟩) (.int .u8 4)).run Tryd.prog W = .ok (.int .u8 52) W := by kernel_rfl
theorem sha_Hex.ix5 (W : World) : (Instr.index 9 (.string ⟨#[48, 49, 50, 51, 52, 53, 54, 55, 56, 57, 97, 98, 99, 100, 101, 102]⟩) (.int .u8 5)).run Tryd.prog W = .ok (.int .u8 53) W := by kernel_rfl
theorem sha_Hex.ix6 (W : World) : (Instr.index 9 (.string ⟨#[48, 49, 50, 51, 52, 53, 54, 55, 56, 57, 97, 98, 99, 100, 101, 102]⟩) (.int .u8 6)).run Tryd.prog W = .ok (.int .u8 54) W := by kernel_rfl
theorem sha_Hex.ix7 (W : World) : (Instr.index 9 (.string ⟨#[48, 49, 50, 51, 52, 53, 54, 55, 56, 57, 97, 98, 99, 100, 101, 102]⟩) (.int .u8 7)).run Tryd.prog W = .ok (.int .u8 55) W := by kernel_rfl
theorem sha_Hex.ix8 (W : World) : (Instr.index 9 (.string ⟨#[48, 49, 50, 51, 52, 53, 54, 55, 56, 57, 97, 98, 99, 100, 101, 102]⟩) (.int .u8 8)).run Tryd.prog W = .ok (.int .u8 56) W := by kernel_rfl
theorem sha_Hex.ix9 (W : World) : (Instr.index 9 (.string ⟨#[48, 49, 50, 51, 52, 53, 54, 55, 56, 57, 97, 98, 99, 100, 101, 102]⟩) (.int .u8 9)).run Tryd.prog W = .ok (.int .u8 57) W := by kernel_rfl
theorem sha_Hex.ix10 (W : World) : (Instr.index 9 (.string ⟨#[48, 49, 50, 51, 52, 53, 54, 55, 56, 57, 97, 98, 99, 100, 101, 102]⟩) (.int .u8 10)).run Tryd.prog W = .ok (.int .u8 97) W := by kernel_rfl
theorem sha_Hex.ix11 (W : World) : (Instr.index 9 (.string ⟨#[48, 49, 50, 51, 52, 53, 54, 55, 56, 57, 97, 98, 99, 100, 101, 102]⟩) (.int .u8 11)).run Tryd.prog W = .ok (.int .u8 98) W := by kernel_rfl
theorem sha_Hex.ix12 (W : World) : (Instr.index 9 (.string ⟨#[48, 49, 50, 51, 52, 53, 54, 55, 56, 57, 97, 98, 99, 100, 101, 102]⟩) (.int .u8 12)).run Tryd.prog W = .ok (.int .u8 99) W := by kernel_rfl
theorem sha_Hex.ix13 (W : World) : (Instr.index 9 (.string ⟨#[48, 49, 50, 51, 52, 53, 54, 55, 56, 57, 97, 98, 99, 100, 101, 102]⟩) (.int .u8 13)).run Tryd.prog W = .ok (.int .u8 100) W := by kernel_rfl
theorem sha_Hex.ix14 (W : World) : (Instr.index 9 (.string ⟨#[48, 49, 50, 51, 52, 53, 54, 55, 56, 57, 97, 98, 99, 100, 101, 102]⟩) (.int .u8 14)).run Tryd.prog W = .ok (.int .u8 101) W := by kernel_rfl
theorem sha_Hex.ix15 (W : World) : (Instr.index 9 (.string ⟨#[48, 49, 50, 51, 52, 53, 54, 55, 56, 57, 97, 98, 99, 100, 101, 102]⟩) (.int .u8 15)).run Tryd.prog W = .ok (.int .u8 102) W := by kernel_rfl
theorem sha_Hex.ix (k : Nat) (hk : k < 16) (W : World) : (Instr.index 9 (.string ⟨#[48, 49, 50, 51, 52, 53, 54, 55, 56, 57, 97, 98, 99, 100, 101, 102]⟩) (.int .u8 (k : Int))).run Tryd.prog W = .ok (.int .u8 (((sha_Hex.hd k).toNat : Nat) : Int)) W := by
  have h : k = 0 ∨ k = 1 ∨ k = 2 ∨ k = 3 ∨ k = 4 ∨ k = 5 ∨ k = 6 ∨ k = 7 ∨ k = 8 ∨ k = 9 ∨ k = 10 ∨ k = 11 ∨ k = 12 ∨ k = 13 ∨ k = 14 ∨ k = 15 := by omega
  rcases h with rfl | rfl | rfl | rfl | rfl | rfl | rfl | rfl | rfl | rfl | rfl | rfl | rfl | rfl | rfl | rfl
  · exact sha_Hex.ix0 W
  · exact sha_Hex.ix1 W
  · exact sha_Hex.ix2 W
  · exact sha_Hex.ix3 W
  · exact sha_Hex.ix4 W
  · exact sha_Hex.ix5 W
  · exact sha_Hex.ix6 W
  · exact sha_Hex.ix7 W
  · exact sha_Hex.ix8 W
  · exact sha_Hex.ix9 W
  · exact sha_Hex.ix10 W
  · exact sha_Hex.ix11 W
  · exact sha_Hex.ix12 W
  · exact sha_Hex.ix13 W
  · exact sha_Hex.ix14 W
  · exact sha_Hex.ix15 W
theorem sha_Hex.low_all : ∀ c : Fin 256, Go.bits .and .u8 (c.val : Int) 15 = ((c.val % 16 : Nat) : Int) := by decide +kernel
theorem sha_Hex.low (c : UInt8) : Go.bits .and .u8 ((c.toNat : Nat) : Int) 15 = ((c.toNat % 16 : Nat) : Int) := sha_Hex.low_all ⟨c.toNat, c.toNat_lt⟩
set_option maxHeartbeats 1000000 in
set_option maxRecDepth 100000 in
theorem sha_Hex.calls (a0 : ByteArray) (r : ByteArray) (w : World) (h : sha_Hex.f a0 = some r) :
    Calls Tryd.prog 22 #[.string a0] w fun e w' => e = .returned (.string r) ∧ Below w.heap.size w w' := by
  unfold sha_Hex.f at h
  by_cases hz : a0.size ≤ 1000000000000
  · rw [if_pos hz] at h
    obtain rfl := Option.some.inj h
    have HZ := Aside0.mk hz
    have HLN : Aside0 (a0.data.toList.length = a0.size) := ⟨data_length a0⟩
    have kb := fun W => print_bytes (P := Tryd.prog) 9 42 5 Tryd.underlying9 Tryd.underlying42 Tryd.underlying5 a0 W
    clear h hz
    go_enter Tryd.func22, Tryd.ntmps22
    go_wp2
    have HB0 := Aside0.mk (Sha.BldAt.new w)
    have HBL0 := Aside0.mk (below_alloc (Below.refl w.heap.size w) (.cells #[.pointer none, .slice none 0 0] 62))
    have hq : (w.alloc (.cells #[.pointer none, .slice none 0 0] 62)).heap.size = w.heap.size + 1 := by simp
    have hb := bytes_below (Below.refl (w.alloc (.cells #[.pointer none, .slice none 0 0] 62)).heap.size (w.alloc (.cells #[.pointer none, .slice none 0 0] 62))) (Nat.le_refl _) 5 a0
    have hc : ∀ j, j < a0.size → (Lib.bytesWorld (w.alloc (.cells #[.pointer none, .slice none 0 0] 62)) 5 a0).cell? ⟨w.heap.size + 1, j, none⟩ = some (.int .u8 ((((a0.data.toList.getD j 0)).toNat : Nat) : Int)) := fun j hj => by
      have h := (bytes_reads (w.alloc (.cells #[.pointer none, .slice none 0 0] 62)) 5 a0 (by have := HZ.out; omega)).2.2 (by omega)
      obtain ⟨ad, e, hx⟩ := h
      cases e
      have h2 := hx j hj
      rw [add_plain, hq] at h2
      rw [h2]
      congr 2
      exact Sha.bl_at a0.data.toList j
    have hlt : w.heap.size + 1 < (Lib.bytesWorld (w.alloc (.cells #[.pointer none, .slice none 0 0] 62)) 5 a0).heap.size ∨ a0.size = 0 := by
      by_cases hz : a0.size = 0
      · exact .inr hz
      · exact .inl (World.block_lt_of_cell? _ _ (hc 0 (by omega)))
    have HB1 := Aside0.mk (HBL0.out.trans (hb.mono HBL0.out.size))
    have HH1 : Aside0 (Sha.BldAt w.heap.size w.heap.size (.pointer none) (.slice none 0 0) [] (Lib.bytesWorld (w.alloc (.cells #[.pointer none, .slice none 0 0] 62)) 5 a0)) := by
      obtain ⟨x1, x2, x3, x4, x5⟩ := HB0.out
      exact ⟨⟨(hb.block w.heap.size (by rw [hq]; omega)).trans x1, ⟨rfl, .inl ⟨rfl, rfl⟩⟩, x3, x4, x5⟩⟩
    have HC1 := Aside0.mk hc
    have HLT := Aside0.mk hlt
    clear hb hc hlt hq HB0 HBL0 kb
    generalize Lib.bytesWorld (w.alloc (.cells #[.pointer none, .slice none 0 0] 62)) 5 a0 = W3 at *
    generalize grownCap (w.alloc (.cells #[.pointer none, .slice none 0 0] 62)) a0.size 0 5 = cap at *
    obtain ⟨n, hn⟩ : ∃ n, a0.size = n := ⟨_, rfl⟩
    rw [hn] at HZ HLN HC1 HLT ⊢
    clear hn
    go_loopw [9] (fun v9 w' => ∃ (i : Nat) (p v : Value), i ≤ n ∧ v9 = .int .i64 (i : Int) ∧ Aside0 (Sha.BldAt w.heap.size w.heap.size p v (sha_Hex.hex (a0.data.toList.take i)) w') ∧ Aside0 (v.ownBlock = none ∨ ∃ k, v.ownBlock = some k ∧ W3.heap.size ≤ k) ∧ Aside0 (∀ j, j < n → w'.cell? ⟨w.heap.size + 1, j, none⟩ = some (.int .u8 ((((a0.data.toList.getD j 0)).toNat : Nat) : Int))) ∧ Aside0 (Below w.heap.size w w') ∧ Aside0 (W3.heap.size ≤ w'.heap.size)) (fun v9 _ => n - (intOf v9).toNat)
    case atStart => exact ⟨0, _, _, Nat.zero_le _, rfl, HH1, ⟨.inl rfl⟩, HC1, HB1, ⟨Nat.le_refl _⟩⟩
    case round =>
      clear HH1 HC1 HB1
      obtain ⟨i, p, v, hi, rfl, H, HA, HC, HB, HS⟩ := hrel
      by_cases hlt : i < n
      · have d1 : decide ((i : Int) < (n : Int)) = true := decide_eq_true (by omega)
        have p1 : (i : Int) < (n : Int) := by omega
        have p0 : 0 ≤ (i : Int) := by omega
        have hx := HC.out i hlt
        have HQ := Aside0.mk (show w.heap.size + 1 < W3.heap.size by rcases HLT.out with h | h
                                                                     · exact h
                                                                     · omega)
        have htk : sha_Hex.hex (a0.data.toList.take (i + 1)) = sha_Hex.hex (a0.data.toList.take i) ++ [sha_Hex.hd ((a0.data.toList.getD i 0).toNat / 16)] ++ [sha_Hex.hd ((a0.data.toList.getD i 0).toNat % 16)] := by
          have hl : i < a0.data.toList.length := by rw [HLN.out]; exact hlt
          rw [List.take_succ_eq_append_getElem hl, List.getD_eq_getElem?_getD, List.getElem?_eq_getElem hl]
          simp [sha_Hex.hex]
        have HX := Aside0.mk (show (sha_Hex.hex (a0.data.toList.take i)).length ≤ 2000000000000 by rw [sha_Hex.hex_length, List.length_take, HLN.out]; have := HZ.out; omega)
        generalize a0.data.toList.getD i 0 = c at *
        have hc256 := c.toNat_lt
        obtain ⟨hi4, h4⟩ : ∃ x, x = c.toNat / 16 := ⟨_, rfl⟩
        obtain ⟨lo4, l4⟩ : ∃ x, x = c.toNat % 16 := ⟨_, rfl⟩
        rw [← h4, ← l4] at htk
        have s1 : ((c.toNat : Nat) : Int) / 16 = (hi4 : Int) := by omega
        have s2 : Go.bits .and .u8 ((c.toNat : Nat) : Int) 15 = (lo4 : Int) := by rw [sha_Hex.low, l4]
        have x1 := sha_Hex.ix hi4 (by omega)
        have x2 := sha_Hex.ix lo4 (by omega)
        have HTK := Aside0.mk htk
        have HI := Aside0.mk (show i + 1 ≤ n by omega)
        have QI := Aside0.mk (show wrap64 ((i : Int) + 1) = ((i + 1 : Nat) : Int) by have := HZ.out; unfold wrap64; omega)
        clear htk h4 l4 hc256 hlt hi
        go_wp2_with (first | (go_at_call 36; (with_reducible first | refine (Sha.wb_calls w.heap.size w.heap.size _ _ _ (sha_Hex.hd hi4) _ H.out HB.out.size (by have := HX.out; (try simp only [List.length_append, List.length_cons, List.length_nil]); omega)).mono ?_ | refine (Sha.wb_calls w.heap.size w.heap.size _ _ _ (sha_Hex.hd lo4) _ H.out HB.out.size (by have := HX.out; (try simp only [List.length_append, List.length_cons, List.length_nil]); omega)).mono ?_); rintro e w5 ⟨rfl, ⟨v5, h5, hat5⟩, hb5, hk5⟩; have N1 := Aside0.mk h5; have N2 := Aside0.mk (show v5.ownBlock = none ∨ ∃ k, v5.ownBlock = some k ∧ W3.heap.size ≤ k from hat5.elim (fun e => e ▸ HA.out) (fun ⟨k, e, hk⟩ => .inr ⟨k, e, Nat.le_trans HS.out hk⟩)); have N3 := Aside0.mk (show ∀ j, j < n → w5.cell? ⟨w.heap.size + 1, j, none⟩ = some (.int .u8 ((((a0.data.toList.getD j 0)).toNat : Nat) : Int)) from fun j hj => (World.cell?_of_block (a := ⟨w.heap.size + 1, j, none⟩) (hk5.2 (w.heap.size + 1) (Nat.lt_of_lt_of_le HQ.out HS.out) (by omega) (fun e => HA.out.elim (fun h => by rw [h] at e; cases e) (fun ⟨k, h, hk⟩ => by rw [h] at e; have := Option.some.inj e; have := HQ.out; omega)))).trans (HC.out j hj)); have N4 := Aside0.mk (HB.out.trans hb5); have N5 := Aside0.mk (Nat.le_trans HS.out hk5.1); clear h5 hat5 hb5 hk5 H HA HC HB HS; have H := N1; have HA := N2; have HC := N3; have HB := N4; have HS := N5; clear N1 N2 N3 N4 N5))
        clear d1 p1 p0 hx s1 s2 x1 x2
        rw [QI.out]
        refine ⟨?_, by simp [intOf]; have := HI.out; omega⟩
        exact ⟨i + 1, _, _, HI.out, rfl, by rw [HTK.out]; exact H, HA, HC, HB, HS⟩
      · obtain rfl : i = n := by omega
        have d1 : decide ((i : Int) < (i : Int)) = false := decide_eq_false (by omega)
        have hall : a0.data.toList.take i = a0.data.toList := List.take_of_length_le (by rw [HLN.out]; exact Nat.le_refl _)
        rw [hall] at H
        clear hall hi hlt
        go_wp2_with (first | (go_at_call 37; (with_reducible refine (Sha.str_calls w.heap.size w.heap.size _ _ _ _ H.out HB.out.size).mono ?_); rintro e w5 ⟨rfl, hb5⟩; have HB5 := Aside0.mk (HB.out.trans hb5); clear hb5))
        go_ret
        exact ⟨rfl, HB5.out⟩
  · rw [if_neg hz] at h
    cases h

/-! ### garretlaw02_works: function 10 -/
def garretlaw02_works.f  : Option (Bool) := (sha_Sum.f (([(⟨#[97, 98, 99]⟩ : ByteArray)] : List ByteArray))).bind fun t104 => ((sha_Hex.f t104).bind fun t105 => (if (t105.size : Int) = 64 then (if 0 ≤ 8 then (if 8 ≤ (t105.size : Int) then (if (t105.extract 0 8).toList = ([98, 97, 55, 56, 49, 54, 98, 102] : List UInt8) then ((sha_Sum.f (([(⟨#[97]⟩ : ByteArray), (⟨#[]⟩ : ByteArray), (⟨#[98, 99]⟩ : ByteArray)] : List ByteArray))).bind fun t109 => ((sha_Hex.f t109).bind fun t110 => (some (t105.toList == t110.toList)))) else (some false)) else (none)) else (none)) else (some false)))
set_option maxHeartbeats 8000000 in
set_option maxRecDepth 100000 in
theorem garretlaw02_works.calls  (r : Bool) (w : World) (hL : Laid w) (h : garretlaw02_works.f  = some r) :
    Calls Tryd.prog 10 #[] w fun e w' => e = .returned (.bool r) ∧ Below w.heap.size w w' := by
  have HLAID := Aside0.mk hL
  clear hL
  have HB := Aside0.mk (Below.refl w.heap.size w)
  have H : ((sha_Sum.f (([(⟨#[97, 98, 99]⟩ : ByteArray)] : List ByteArray))).bind fun t104 => ((sha_Hex.f t104).bind fun t105 => (if (t105.size : Int) = 64 then (if 0 ≤ 8 then (if 8 ≤ (t105.size : Int) then (if (t105.extract 0 8).toList = ([98, 97, 55, 56, 49, 54, 98, 102] : List UInt8) then ((sha_Sum.f (([(⟨#[97]⟩ : ByteArray), (⟨#[]⟩ : ByteArray), (⟨#[98, 99]⟩ : ByteArray)] : List ByteArray))).bind fun t109 => ((sha_Hex.f t109).bind fun t110 => (some (t105.toList == t110.toList)))) else (some false)) else (none)) else (none)) else (some false)))) = some r := h
  clear h
  obtain ⟨y101, hy101⟩ : ∃ y_ : List ByteArray, y_ = (([(⟨#[97, 98, 99]⟩ : ByteArray)] : List ByteArray)) := ⟨_, rfl⟩
  replace H : ((sha_Sum.f y101).bind fun t104 => ((sha_Hex.f t104).bind fun t105 => (if (t105.size : Int) = 64 then (if 0 ≤ 8 then (if 8 ≤ (t105.size : Int) then (if (t105.extract 0 8).toList = ([98, 97, 55, 56, 49, 54, 98, 102] : List UInt8) then ((sha_Sum.f (([(⟨#[97]⟩ : ByteArray), (⟨#[]⟩ : ByteArray), (⟨#[98, 99]⟩ : ByteArray)] : List ByteArray))).bind fun t109 => ((sha_Hex.f t109).bind fun t110 => (some (t105.toList == t110.toList)))) else (some false)) else (none)) else (none)) else (some false)))) = some r := by first | (rw [hy101]; with_reducible exact H) | (have H2_ := (Option.bind_some _ _).symm.trans H; rw [hy101]; with_reducible exact H2_) | (have H2_ := (Option.bind_some _ _).symm.trans H; with_reducible exact H2_) | with_reducible exact H | (rw [hy101]; exact H) | exact H
  have Ny101 := Aside0.mk hy101
  clear hy101
  replace H := Option.bind_eq_some_iff.mp H
  obtain ⟨t104, A10, H⟩ := H
  replace H : ((sha_Hex.f t104).bind fun t105 => (if (t105.size : Int) = 64 then (if 0 ≤ 8 then (if 8 ≤ (t105.size : Int) then (if (t105.extract 0 8).toList = ([98, 97, 55, 56, 49, 54, 98, 102] : List UInt8) then ((sha_Sum.f (([(⟨#[97]⟩ : ByteArray), (⟨#[]⟩ : ByteArray), (⟨#[98, 99]⟩ : ByteArray)] : List ByteArray))).bind fun t109 => ((sha_Hex.f t109).bind fun t110 => (some (t105.toList == t110.toList)))) else (some false)) else (none)) else (none)) else (some false))) = some r := H
  have A1 := Aside0.mk A10
  clear A10
  replace H := Option.bind_eq_some_iff.mp H
  obtain ⟨t105, A20, H⟩ := H
  replace H : (if (t105.size : Int) = 64 then (if 0 ≤ 8 then (if 8 ≤ (t105.size : Int) then (if (t105.extract 0 8).toList = ([98, 97, 55, 56, 49, 54, 98, 102] : List UInt8) then ((sha_Sum.f (([(⟨#[97]⟩ : ByteArray), (⟨#[]⟩ : ByteArray), (⟨#[98, 99]⟩ : ByteArray)] : List ByteArray))).bind fun t109 => ((sha_Hex.f t109).bind fun t110 => (some (t105.toList == t110.toList)))) else (some false)) else (none)) else (none)) else (some false)) = some r := H
  have A2 := Aside0.mk A20
  clear A20
  by_cases c3 : (t105.size : Int) = 64
  · rw [if_pos c3] at H
    have c3b0 : ((t105.size : Int) == 64) = true := beq_iff_eq.mpr c3
    have c3b1 : ((t105.size : Int) != 64) = false := bne_eq_false_iff_eq.mpr c3
    clear c3
    by_cases c4 : 0 ≤ 8
    · rw [if_pos c4] at H
      have c4b0 := eq_true c4
      have c4b1 : decide (0 ≤ 8) = true := decide_eq_true c4
      clear c4
      by_cases c5 : 8 ≤ (t105.size : Int)
      · rw [if_pos c5] at H
        have c5b0 := eq_true c5
        have c5b1 : decide (8 ≤ (t105.size : Int)) = true := decide_eq_true c5
        clear c5
        by_cases c6 : (t105.extract 0 8).toList = ([98, 97, 55, 56, 49, 54, 98, 102] : List UInt8)
        · rw [if_pos c6] at H
          have c6b0 : ((t105.extract 0 8).toList == ([98, 97, 55, 56, 49, 54, 98, 102] : List UInt8)) = true := beq_iff_eq.mpr c6
          have c6b1 : ((t105.extract 0 8).toList != ([98, 97, 55, 56, 49, 54, 98, 102] : List UInt8)) = false := bne_eq_false_iff_eq.mpr c6
          clear c6
          obtain ⟨y106, hy106⟩ : ∃ y_ : List ByteArray, y_ = (([(⟨#[97]⟩ : ByteArray), (⟨#[]⟩ : ByteArray), (⟨#[98, 99]⟩ : ByteArray)] : List ByteArray)) := ⟨_, rfl⟩
          replace H : ((sha_Sum.f y106).bind fun t109 => ((sha_Hex.f t109).bind fun t110 => (some (t105.toList == t110.toList)))) = some r := by first | (rw [hy106]; with_reducible exact H) | (have H2_ := (Option.bind_some _ _).symm.trans H; rw [hy106]; with_reducible exact H2_) | (have H2_ := (Option.bind_some _ _).symm.trans H; with_reducible exact H2_) | with_reducible exact H | (rw [hy106]; exact H) | exact H
          have Ny106 := Aside0.mk hy106
          clear hy106
          replace H := Option.bind_eq_some_iff.mp H
          obtain ⟨t109, A70, H⟩ := H
          replace H : ((sha_Hex.f t109).bind fun t110 => (some (t105.toList == t110.toList))) = some r := H
          have A7 := Aside0.mk A70
          clear A70
          replace H := Option.bind_eq_some_iff.mp H
          obtain ⟨t110, A80, H⟩ := H
          replace H : (some (t105.toList == t110.toList)) = some r := H
          have A8 := Aside0.mk A80
          clear A80
          obtain rfl := Option.some.inj H
          go_enter Tryd.func10, Tryd.ntmps10
          go_wp2_with (first | ((with_reducible refine gate_dst (N := 2) rfl ?_); (try (refine gate_guard (by rfl) ?_; dsimp only)); refine Kd.R_lit Kd.string _ 9 ?hg (N := 2) ?hd (xs := ([(⟨#[97, 98, 99]⟩ : ByteArray)] : List ByteArray)) (inner := [.string (⟨#[97, 98, 99]⟩ : ByteArray)]) (ok := fun _ => True) (okp := fun _ => True) ?hr ?hp (fun _ hk => hk) trivial (Below.refl _ _) (Nat.le_refl _) (by simp) ?_; (case hd => rfl); (case hg => rfl); (case hr => first | (go_simp; done) | (go_simp; rfl)); (case hp => exact (Reps.one (show Kd.M Kd.string _ _ _ (⟨#[97, 98, 99]⟩ : ByteArray) [.string (⟨#[97, 98, 99]⟩ : ByteArray)] from rfl) (Reps.none _ _))); intro v102 w9 ho10 hb hg_ hnew_; clear hg_ hnew_; (first | rw [← Ny101.out] at ho10 | (simp only [Int.reduceToNat] at ho10; rw [← Ny101.out] at ho10)); have n0_ := Aside0.mk (Kd.R_lower ho10 (below_size (by repeat (first | (with_reducible first | exact HB.out | apply below_alloc | apply pw_below_drewN | apply below_drew1) | exact HB.out)))); have n1_ := Aside0.mk (below_step (by repeat (first | (with_reducible first | exact HB.out | apply below_alloc | apply pw_below_drewN | apply below_drew1) | exact HB.out)) hb); clear HB; have HO103 := n0_; have HB := n1_; clear n0_ n1_; clear hb ho10; obtain ⟨Ao11, co11, eo11⟩ := Kd.R_slice HO103.out; subst eo11) | ((with_reducible refine gate_callee (f := 17) rfl ?_); refine goesL_ (some 3) rfl rfl Tryd.func17 (by kernel_rfl) rfl #[.slice Ao11 y101.length co11] rfl (by (try simp only [List.map_toArray, List.map_cons, List.map_nil]); first | done | rfl | (simp only [List.length_drop, List.length_take]; rfl)) ?_; (with_reducible refine (sha_Sum.calls _ _ y101 t104 _ ?side1 ?side2 ?side3 A1.out).mono ?_); (case side1 => repeat (first | exact (Kd.R_reads' HO103.out).2.2 | (with_reducible refine Kd.C_alloc ?_ _) | (with_reducible refine Kd.C_drewN ?_ _) | (with_reducible refine Kd.C_drew ?_))); (case side2 => exact (Kd.R_reads' HO103.out).2.1); (case side3 => first | exact HLAID.out | exact Laid.drewN HLAID.out _ | exact Laid.below HLAID.out (by repeat (first | (with_reducible first | exact HB.out | apply below_alloc | apply pw_below_drewN | apply below_drew1) | exact HB.out))); rintro e w12 ⟨rfl, hb⟩; refine ⟨_, rfl, ?_⟩; have n0_ := Aside0.mk (Kd.R_below (by (with_reducible repeat (first | apply Kd.R_alloc | apply Kd.R_drewN | apply Kd.R_drew)); exact HO103.out) hb); have n1_ := Aside0.mk (below_step (by repeat (first | (with_reducible first | exact HB.out | apply below_alloc | apply pw_below_drewN | apply below_drew1) | exact HB.out)) hb); clear HO103; clear HB; have HO103 := n0_; have HB := n1_; clear n0_ n1_; (try clear hb); (try clear hb2); (try clear hk); (try clear hi)) | ((with_reducible refine gate_callee (f := 22) rfl ?_); refine goesL_ (some 4) rfl rfl Tryd.func22 (by kernel_rfl) rfl #[.string t104] rfl (by (try simp only [List.map_toArray, List.map_cons, List.map_nil]); first | done | rfl | (simp only [List.length_drop, List.length_take]; rfl)) ?_; (with_reducible refine (sha_Hex.calls t104 t105 _ A2.out).mono ?_); rintro e w13 ⟨rfl, hb⟩; refine ⟨_, rfl, ?_⟩; have n0_ := Aside0.mk (Kd.R_below (by (with_reducible repeat (first | apply Kd.R_alloc | apply Kd.R_drewN | apply Kd.R_drew)); exact HO103.out) hb); have n1_ := Aside0.mk (below_step (by repeat (first | (with_reducible first | exact HB.out | apply below_alloc | apply pw_below_drewN | apply below_drew1) | exact HB.out)) hb); clear HO103; clear HB; have HO103 := n0_; have HB := n1_; clear n0_ n1_; (try clear hb); (try clear hb2); (try clear hk); (try clear hi)) | ((with_reducible refine gate_dst (N := 15) rfl ?_); (try (refine gate_guard (by rfl) ?_; dsimp only)); refine Kd.R_lit Kd.string _ 9 ?hg (N := 15) ?hd (xs := ([(⟨#[97]⟩ : ByteArray), (⟨#[]⟩ : ByteArray), (⟨#[98, 99]⟩ : ByteArray)] : List ByteArray)) (inner := [.string (⟨#[97]⟩ : ByteArray), .string (⟨#[]⟩ : ByteArray), .string (⟨#[98, 99]⟩ : ByteArray)]) (ok := fun _ => True) (okp := fun _ => True) ?hr ?hp (fun _ hk => hk) trivial (Below.refl _ _) (Nat.le_refl _) (by simp) ?_; (case hd => rfl); (case hg => rfl); (case hr => first | (go_simp; done) | (go_simp; rfl)); (case hp => exact (Reps.one (show Kd.M Kd.string _ _ _ (⟨#[97]⟩ : ByteArray) [.string (⟨#[97]⟩ : ByteArray)] from rfl) (Reps.one (show Kd.M Kd.string _ _ _ (⟨#[]⟩ : ByteArray) [.string (⟨#[]⟩ : ByteArray)] from rfl) (Reps.one (show Kd.M Kd.string _ _ _ (⟨#[98, 99]⟩ : ByteArray) [.string (⟨#[98, 99]⟩ : ByteArray)] from rfl) (Reps.none _ _))))); intro v107 w14 ho15 hb hg_ hnew_; clear hg_ hnew_; (first | rw [← Ny106.out] at ho15 | (simp only [Int.reduceToNat] at ho15; rw [← Ny106.out] at ho15)); have n0_ := Aside0.mk (Kd.R_elder' (by (with_reducible repeat (first | apply Kd.R_alloc | apply Kd.R_drewN | apply Kd.R_drew)); exact HO103.out) (Kd.R_base ho15) hb); have n1_ := Aside0.mk (Kd.R_lower (Kd.R_new' ho15 (Kd.R_lt (by (with_reducible repeat (first | apply Kd.R_alloc | apply Kd.R_drewN | apply Kd.R_drew)); exact HO103.out))) (below_size (by repeat (first | (with_reducible first | exact HB.out | apply below_alloc | apply pw_below_drewN | apply below_drew1) | exact HB.out)))); have n2_ := Aside0.mk (below_step (by repeat (first | (with_reducible first | exact HB.out | apply below_alloc | apply pw_below_drewN | apply below_drew1) | exact HB.out)) hb); clear HO103; clear HB; have HO103 := n0_; have HO108 := n1_; have HB := n2_; clear n0_ n1_ n2_; clear hb ho15; obtain ⟨Ao16, co16, eo16⟩ := Kd.R_slice HO108.out; subst eo16) | (go_at_call 17; (with_reducible refine (sha_Sum.calls _ _ y106 t109 _ ?side1 ?side2 ?side3 A7.out).mono ?_); (case side1 => repeat (first | exact (Kd.R_reads' HO108.out).2.2 | (with_reducible refine Kd.C_alloc ?_ _) | (with_reducible refine Kd.C_drewN ?_ _) | (with_reducible refine Kd.C_drew ?_))); (case side2 => exact (Kd.R_reads' HO108.out).2.1); (case side3 => first | exact HLAID.out | exact Laid.drewN HLAID.out _ | exact Laid.below HLAID.out (by repeat (first | (with_reducible first | exact HB.out | apply below_alloc | apply pw_below_drewN | apply below_drew1) | exact HB.out))); rintro e w17 ⟨rfl, hb⟩; have n0_ := Aside0.mk (Kd.R_below (by (with_reducible repeat (first | apply Kd.R_alloc | apply Kd.R_drewN | apply Kd.R_drew)); exact HO103.out) hb); have n1_ := Aside0.mk (Kd.R_below (by (with_reducible repeat (first | apply Kd.R_alloc | apply Kd.R_drewN | apply Kd.R_drew)); exact HO108.out) hb); have n2_ := Aside0.mk (below_step (by repeat (first | (with_reducible first | exact HB.out | apply below_alloc | apply pw_below_drewN | apply below_drew1) | exact HB.out)) hb); clear HO103; clear HO108; clear HB; have HO103 := n0_; have HO108 := n1_; have HB := n2_; clear n0_ n1_ n2_; (try clear hb); (try clear hb2); (try clear hk); (try clear hi)) | (go_at_call 22; (with_reducible refine (sha_Hex.calls t109 t110 _ A8.out).mono ?_); rintro e w18 ⟨rfl, hb⟩; have n0_ := Aside0.mk (Kd.R_below (by (with_reducible repeat (first | apply Kd.R_alloc | apply Kd.R_drewN | apply Kd.R_drew)); exact HO103.out) hb); have n1_ := Aside0.mk (Kd.R_below (by (with_reducible repeat (first | apply Kd.R_alloc | apply Kd.R_drewN | apply Kd.R_drew)); exact HO108.out) hb); have n2_ := Aside0.mk (below_step (by repeat (first | (with_reducible first | exact HB.out | apply below_alloc | apply pw_below_drewN | apply below_drew1) | exact HB.out)) hb); clear HO103; clear HO108; clear HB; have HO103 := n0_; have HO108 := n1_; have HB := n2_; clear n0_ n1_ n2_; (try clear hb); (try clear hb2); (try clear hk); (try clear hi)))
          go_ret
          exact ⟨by first | rfl | (simp [errW_none, errW_some] <;> rfl) | (simp [*, errW_none, errW_some] <;> rfl), by repeat (first | (with_reducible first | exact HB.out | apply below_alloc | apply pw_below_drewN | apply below_drew1) | exact HB.out)⟩
        · rw [if_neg c6] at H
          have c6b0 : ((t105.extract 0 8).toList == ([98, 97, 55, 56, 49, 54, 98, 102] : List UInt8)) = false := beq_eq_false_iff_ne.mpr c6
          have c6b1 : ((t105.extract 0 8).toList != ([98, 97, 55, 56, 49, 54, 98, 102] : List UInt8)) = true := bne_iff_ne.mpr c6
          obtain rfl := Option.some.inj H
          go_enter Tryd.func10, Tryd.ntmps10
          go_wp2_with (first | ((with_reducible refine gate_dst (N := 2) rfl ?_); (try (refine gate_guard (by rfl) ?_; dsimp only)); refine Kd.R_lit Kd.string _ 9 ?hg (N := 2) ?hd (xs := ([(⟨#[97, 98, 99]⟩ : ByteArray)] : List ByteArray)) (inner := [.string (⟨#[97, 98, 99]⟩ : ByteArray)]) (ok := fun _ => True) (okp := fun _ => True) ?hr ?hp (fun _ hk => hk) trivial (Below.refl _ _) (Nat.le_refl _) (by simp) ?_; (case hd => rfl); (case hg => rfl); (case hr => first | (go_simp; done) | (go_simp; rfl)); (case hp => exact (Reps.one (show Kd.M Kd.string _ _ _ (⟨#[97, 98, 99]⟩ : ByteArray) [.string (⟨#[97, 98, 99]⟩ : ByteArray)] from rfl) (Reps.none _ _))); intro v102 w19 ho20 hb hg_ hnew_; clear hg_ hnew_; (first | rw [← Ny101.out] at ho20 | (simp only [Int.reduceToNat] at ho20; rw [← Ny101.out] at ho20)); have n0_ := Aside0.mk (Kd.R_lower ho20 (below_size (by repeat (first | (with_reducible first | exact HB.out | apply below_alloc | apply pw_below_drewN | apply below_drew1) | exact HB.out)))); have n1_ := Aside0.mk (below_step (by repeat (first | (with_reducible first | exact HB.out | apply below_alloc | apply pw_below_drewN | apply below_drew1) | exact HB.out)) hb); clear HB; have HO103 := n0_; have HB := n1_; clear n0_ n1_; clear hb ho20; obtain ⟨Ao21, co21, eo21⟩ := Kd.R_slice HO103.out; subst eo21) | ((with_reducible refine gate_callee (f := 17) rfl ?_); refine goesL_ (some 3) rfl rfl Tryd.func17 (by kernel_rfl) rfl #[.slice Ao21 y101.length co21] rfl (by (try simp only [List.map_toArray, List.map_cons, List.map_nil]); first | done | rfl | (simp only [List.length_drop, List.length_take]; rfl)) ?_; (with_reducible refine (sha_Sum.calls _ _ y101 t104 _ ?side1 ?side2 ?side3 A1.out).mono ?_); (case side1 => repeat (first | exact (Kd.R_reads' HO103.out).2.2 | (with_reducible refine Kd.C_alloc ?_ _) | (with_reducible refine Kd.C_drewN ?_ _) | (with_reducible refine Kd.C_drew ?_))); (case side2 => exact (Kd.R_reads' HO103.out).2.1); (case side3 => first | exact HLAID.out | exact Laid.drewN HLAID.out _ | exact Laid.below HLAID.out (by repeat (first | (with_reducible first | exact HB.out | apply below_alloc | apply pw_below_drewN | apply below_drew1) | exact HB.out))); rintro e w22 ⟨rfl, hb⟩; refine ⟨_, rfl, ?_⟩; have n0_ := Aside0.mk (Kd.R_below (by (with_reducible repeat (first | apply Kd.R_alloc | apply Kd.R_drewN | apply Kd.R_drew)); exact HO103.out) hb); have n1_ := Aside0.mk (below_step (by repeat (first | (with_reducible first | exact HB.out | apply below_alloc | apply pw_below_drewN | apply below_drew1) | exact HB.out)) hb); clear HO103; clear HB; have HO103 := n0_; have HB := n1_; clear n0_ n1_; (try clear hb); (try clear hb2); (try clear hk); (try clear hi)) | ((with_reducible refine gate_callee (f := 22) rfl ?_); refine goesL_ (some 4) rfl rfl Tryd.func22 (by kernel_rfl) rfl #[.string t104] rfl (by (try simp only [List.map_toArray, List.map_cons, List.map_nil]); first | done | rfl | (simp only [List.length_drop, List.length_take]; rfl)) ?_; (with_reducible refine (sha_Hex.calls t104 t105 _ A2.out).mono ?_); rintro e w23 ⟨rfl, hb⟩; refine ⟨_, rfl, ?_⟩; have n0_ := Aside0.mk (Kd.R_below (by (with_reducible repeat (first | apply Kd.R_alloc | apply Kd.R_drewN | apply Kd.R_drew)); exact HO103.out) hb); have n1_ := Aside0.mk (below_step (by repeat (first | (with_reducible first | exact HB.out | apply below_alloc | apply pw_below_drewN | apply below_drew1) | exact HB.out)) hb); clear HO103; clear HB; have HO103 := n0_; have HB := n1_; clear n0_ n1_; (try clear hb); (try clear hb2); (try clear hk); (try clear hi)))
          go_ret
          exact ⟨by first | rfl | (simp [errW_none, errW_some] <;> rfl) | (simp [*, errW_none, errW_some] <;> rfl), by repeat (first | (with_reducible first | exact HB.out | apply below_alloc | apply pw_below_drewN | apply below_drew1) | exact HB.out)⟩
      · rw [if_neg c5] at H
        exact absurd H (by simp)
    · rw [if_neg c4] at H
      exact absurd H (by simp)
  · rw [if_neg c3] at H
    have c3b0 : ((t105.size : Int) == 64) = false := beq_eq_false_iff_ne.mpr c3
    have c3b1 : ((t105.size : Int) != 64) = true := bne_iff_ne.mpr c3
    obtain rfl := Option.some.inj H
    go_enter Tryd.func10, Tryd.ntmps10
    go_wp2_with (first | ((with_reducible refine gate_dst (N := 2) rfl ?_); (try (refine gate_guard (by rfl) ?_; dsimp only)); refine Kd.R_lit Kd.string _ 9 ?hg (N := 2) ?hd (xs := ([(⟨#[97, 98, 99]⟩ : ByteArray)] : List ByteArray)) (inner := [.string (⟨#[97, 98, 99]⟩ : ByteArray)]) (ok := fun _ => True) (okp := fun _ => True) ?hr ?hp (fun _ hk => hk) trivial (Below.refl _ _) (Nat.le_refl _) (by simp) ?_; (case hd => rfl); (case hg => rfl); (case hr => first | (go_simp; done) | (go_simp; rfl)); (case hp => exact (Reps.one (show Kd.M Kd.string _ _ _ (⟨#[97, 98, 99]⟩ : ByteArray) [.string (⟨#[97, 98, 99]⟩ : ByteArray)] from rfl) (Reps.none _ _))); intro v102 w24 ho25 hb hg_ hnew_; clear hg_ hnew_; (first | rw [← Ny101.out] at ho25 | (simp only [Int.reduceToNat] at ho25; rw [← Ny101.out] at ho25)); have n0_ := Aside0.mk (Kd.R_lower ho25 (below_size (by repeat (first | (with_reducible first | exact HB.out | apply below_alloc | apply pw_below_drewN | apply below_drew1) | exact HB.out)))); have n1_ := Aside0.mk (below_step (by repeat (first | (with_reducible first | exact HB.out | apply below_alloc | apply pw_below_drewN | apply below_drew1) | exact HB.out)) hb); clear HB; have HO103 := n0_; have HB := n1_; clear n0_ n1_; clear hb ho25; obtain ⟨Ao26, co26, eo26⟩ := Kd.R_slice HO103.out; subst eo26) | ((with_reducible refine gate_callee (f := 17) rfl ?_); refine goesL_ (some 3) rfl rfl Tryd.func17 (by kernel_rfl) rfl #[.slice Ao26 y101.length co26] rfl (by (try simp only [List.map_toArray, List.map_cons, List.map_nil]); first | done | rfl | (simp only [List.length_drop, List.length_take]; rfl)) ?_; (with_reducible refine (sha_Sum.calls _ _ y101 t104 _ ?side1 ?side2 ?side3 A1.out).mono ?_); (case side1 => repeat (first | exact (Kd.R_reads' HO103.out).2.2 | (with_reducible refine Kd.C_alloc ?_ _) | (with_reducible refine Kd.C_drewN ?_ _) | (with_reducible refine Kd.C_drew ?_))); (case side2 => exact (Kd.R_reads' HO103.out).2.1); (case side3 => first | exact HLAID.out | exact Laid.drewN HLAID.out _ | exact Laid.below HLAID.out (by repeat (first | (with_reducible first | exact HB.out | apply below_alloc | apply pw_below_drewN | apply below_drew1) | exact HB.out))); rintro e w27 ⟨rfl, hb⟩; refine ⟨_, rfl, ?_⟩; have n0_ := Aside0.mk (Kd.R_below (by (with_reducible repeat (first | apply Kd.R_alloc | apply Kd.R_drewN | apply Kd.R_drew)); exact HO103.out) hb); have n1_ := Aside0.mk (below_step (by repeat (first | (with_reducible first | exact HB.out | apply below_alloc | apply pw_below_drewN | apply below_drew1) | exact HB.out)) hb); clear HO103; clear HB; have HO103 := n0_; have HB := n1_; clear n0_ n1_; (try clear hb); (try clear hb2); (try clear hk); (try clear hi)) | ((with_reducible refine gate_callee (f := 22) rfl ?_); refine goesL_ (some 4) rfl rfl Tryd.func22 (by kernel_rfl) rfl #[.string t104] rfl (by (try simp only [List.map_toArray, List.map_cons, List.map_nil]); first | done | rfl | (simp only [List.length_drop, List.length_take]; rfl)) ?_; (with_reducible refine (sha_Hex.calls t104 t105 _ A2.out).mono ?_); rintro e w28 ⟨rfl, hb⟩; refine ⟨_, rfl, ?_⟩; have n0_ := Aside0.mk (Kd.R_below (by (with_reducible repeat (first | apply Kd.R_alloc | apply Kd.R_drewN | apply Kd.R_drew)); exact HO103.out) hb); have n1_ := Aside0.mk (below_step (by repeat (first | (with_reducible first | exact HB.out | apply below_alloc | apply pw_below_drewN | apply below_drew1) | exact HB.out)) hb); clear HO103; clear HB; have HO103 := n0_; have HB := n1_; clear n0_ n1_; (try clear hb); (try clear hb2); (try clear hk); (try clear hi)))
    go_ret
    exact ⟨by first | rfl | (simp [errW_none, errW_some] <;> rfl) | (simp [*, errW_none, errW_some] <;> rfl), by repeat (first | (with_reducible first | exact HB.out | apply below_alloc | apply pw_below_drewN | apply below_drew1) | exact HB.out)⟩

/-! ### sha_IsId: function 21 -/
def sha_IsId.f (a0 : ByteArray) : Option (Bool) := some ((a0.size : Int) == 32)
set_option maxHeartbeats 8000000 in
set_option maxRecDepth 100000 in
theorem sha_IsId.calls (a0 : ByteArray) (r : Bool) (w : World) (h : sha_IsId.f a0 = some r) :
    Calls Tryd.prog 21 #[.string a0] w fun e w' => e = .returned (.bool r) ∧ Drawn0 w w' := by
  have H : (some ((a0.size : Int) == 32)) = some r := h
  clear h
  obtain rfl := Option.some.inj H
  go_enter Tryd.func21, Tryd.ntmps21
  go_wp2
  go_ret
  exact ⟨by first | rfl | (simp; done) | (simp [*]; done) | (simp; exact (by decide : ∀ p q : Bool, (p == q) = (!(p != q))) _ _) | (simp; exact (by decide : ∀ p q : Bool, (!(p != q)) = (p == q)) _ _), by repeat (first | exact Drawn0.refl _ | apply Drawn0.step)⟩

/-! ### sha_Unhex: function 23, by hand -/
def sha_Unhex.dig (c : UInt8) : Int := Lib.indexByte [48, 49, 50, 51, 52, 53, 54, 55, 56, 57, 97, 98, 99, 100, 101, 102] c
def sha_Unhex.byte (a b : UInt8) : UInt8 := ((sha_Unhex.dig a).toNat * 16 + (sha_Unhex.dig b).toNat).toUInt8
def sha_Unhex.go : List UInt8 → List UInt8 → ByteArray × Int
  | [], acc => (⟨acc.toArray⟩, 0)
  | [_], _ => (⟨#[]⟩, 3)
  | a :: b :: r, acc => if sha_Unhex.dig a < 0 ∨ sha_Unhex.dig b < 0 then (⟨#[]⟩, 3) else sha_Unhex.go r (acc ++ [sha_Unhex.byte a b])
def sha_Unhex.f (a0 : ByteArray) : Option (ByteArray × Int) := if a0.size ≤ 1000000000000 then some (sha_Unhex.go a0.data.toList []) else none
theorem sha_Unhex.dig_all : ∀ c : Fin 256, -1 ≤ sha_Unhex.dig c.val.toUInt8 ∧ sha_Unhex.dig c.val.toUInt8 ≤ 15 := by decide +kernel
theorem sha_Unhex.dig_range (c : UInt8) : -1 ≤ sha_Unhex.dig c ∧ sha_Unhex.dig c ≤ 15 := by
  have h := sha_Unhex.dig_all ⟨c.toNat, c.toNat_lt⟩
  have e : c.toNat.toUInt8 = c := by simp
  simpa [e] using h
theorem sha_Unhex.ixb (c : UInt8) (w : World) : Calls Tryd.prog 38 #[.string ⟨#[48, 49, 50, 51, 52, 53, 54, 55, 56, 57, 97, 98, 99, 100, 101, 102]⟩, .int .u8 ((c.toNat : Nat) : Int)] w fun e w' => e = .returned (.int .i64 (sha_Unhex.dig c)) ∧ w' = w := by
  have h := Tryd.strings_IndexByte ⟨#[48, 49, 50, 51, 52, 53, 54, 55, 56, 57, 97, 98, 99, 100, 101, 102]⟩ ((c.toNat : Nat) : Int) w
  have e : ((c.toNat : Nat) : Int).toNat.toUInt8 = c := by simp
  rw [e] at h
  exact h
theorem sha_Unhex.at_ (s : ByteArray) (i : Nat) (c : UInt8) (hi : i < s.size) (hc : s.data.toList.getD i 0 = c) (W : World) : (Instr.index 9 (.string s) (.int .i64 (i : Int))).run Tryd.prog W = .ok (.int .u8 ((c.toNat : Nat) : Int)) W := by
  rw [run_index_string W 9 s .i64 (i : Int) Tryd.underlying9, dif_pos ⟨by omega, by omega⟩]
  subst hc
  congr 3
  rw [List.getD_eq_getElem?_getD, List.getElem?_eq_getElem (show i < s.data.toList.length by rw [data_length]; exact hi)]
  rfl
theorem sha_Unhex.or_all : ∀ x y : Fin 16, Go.bits .or .i64 (wrap64 ((x.val : Int) * 16)) (y.val : Int) % 256 = (((x.val * 16 + y.val).toUInt8.toNat : Nat) : Int) := by decide +kernel
theorem sha_Unhex.or_told (x y : Nat) (hx : x ≤ 15) (hy : y ≤ 15) : Go.bits .or .i64 (wrap64 ((x : Int) * 16)) (y : Int) % 256 = (((x * 16 + y).toUInt8.toNat : Nat) : Int) := sha_Unhex.or_all ⟨x, by omega⟩ ⟨y, by omega⟩
theorem sha_Unhex.bld_drewN {B b : Nat} {p v : Value} {l : List UInt8} {w : World} (h : Sha.BldAt B b p v l w) (n : Nat) : Sha.BldAt B b p v l (w.drewN n) := by
  obtain ⟨h1, h2, h3, h4, h5⟩ := h
  exact ⟨h1, own_move h2 (fun k hk => rfl), h3, h4, h5⟩
set_option maxHeartbeats 1000000 in
set_option maxRecDepth 100000 in
theorem sha_Unhex.calls (a0 : ByteArray) (r1 : ByteArray) (r2 : Int) (w : World) (h : sha_Unhex.f a0 = some (r1, r2)) :
    Calls Tryd.prog 23 #[.string a0] w fun e w' => e = .returned (.tuple #[.string r1, .int .i64 r2]) ∧ Below w.heap.size w w' := by
  unfold sha_Unhex.f at h
  by_cases hz : a0.size ≤ 1000000000000
  · rw [if_pos hz] at h
    have HGO := Aside0.mk (Option.some.inj h)
    have HZ := Aside0.mk hz
    have HLN : Aside0 (a0.data.toList.length = a0.size) := ⟨data_length a0⟩
    clear h
    obtain ⟨n, hn⟩ : ∃ n, a0.size = n := ⟨_, rfl⟩
    have HN := Aside0.mk hn
    rw [hn] at HZ HLN hz
    clear hz
    go_enter Tryd.func23, Tryd.ntmps23
    go_wp2
    have HB0 := Aside0.mk (Sha.BldAt.new w)
    have HBL0 := Aside0.mk (below_alloc (Below.refl w.heap.size w) (.cells #[.pointer none, .slice none 0 0] 62))
    clear hn
    generalize w.alloc (.cells #[.pointer none, .slice none 0 0] 62) = W3 at *
    go_loopw [5] (fun v5 w' => ∃ (i : Nat) (p v : Value) (acc : List UInt8), i ≤ n ∧ v5 = .int .i64 (i : Int) ∧ Aside0 (sha_Unhex.go (a0.data.toList.drop i) acc = (r1, r2)) ∧ Aside0 (acc.length ≤ i) ∧ Aside0 (Sha.BldAt w.heap.size w.heap.size p v acc w') ∧ Aside0 (Below w.heap.size w w')) (fun v5 _ => n - (intOf v5).toNat)
    case atStart => exact ⟨0, _, _, [], Nat.zero_le _, rfl, HGO, ⟨Nat.le_refl _⟩, HB0, HBL0⟩
    case round =>
      clear HB0 HBL0 HGO
      obtain ⟨i, p, v, acc, hi, rfl, HE, HA, H, HB⟩ := hrel
      by_cases hlt : i < n
      · have d1 : decide ((i : Int) < (n : Int)) = true := decide_eq_true (by omega)
        have hl : i < a0.data.toList.length := by rw [HLN.out]; exact hlt
        have he := HE.out
        rw [List.drop_eq_getElem_cons hl] at he
        have ha : a0.data.toList.getD i 0 = a0.data.toList[i] := by rw [List.getD_eq_getElem?_getD, List.getElem?_eq_getElem hl]; rfl
        rw [← ha] at he
        obtain ⟨a, hA⟩ : ∃ a, a0.data.toList.getD i 0 = a := ⟨_, rfl⟩
        rw [hA] at he
        by_cases hend : i + 1 = n
        · have d2 : (wrap64 ((i : Int) + 1) == (n : Int)) = true := by
            rw [show wrap64 ((i : Int) + 1) = (n : Int) by have := HZ.out; unfold wrap64; omega]
            exact beq_self_eq_true _
          rw [List.drop_eq_nil_of_le (by rw [HLN.out]; omega)] at he
          simp only [sha_Unhex.go] at he
          have HE2 := Aside0.mk he
          have HN2 := HN.out
          clear he hA ha hl HE hi
          go_wp2
          go_ret2
          obtain ⟨rfl, rfl⟩ := Prod.mk.inj HE2.out
          exact ⟨rfl, HB.out⟩
        · have d2 : (wrap64 ((i : Int) + 1) == (n : Int)) = false := beq_eq_false_iff_ne.mpr (by have := HZ.out; unfold wrap64; omega)
          have hl1 : i + 1 < a0.data.toList.length := by rw [HLN.out]; omega
          rw [List.drop_eq_getElem_cons hl1] at he
          have hb : a0.data.toList.getD (i + 1) 0 = a0.data.toList[i + 1] := by rw [List.getD_eq_getElem?_getD, List.getElem?_eq_getElem hl1]; rfl
          rw [← hb] at he
          obtain ⟨b, hB'⟩ : ∃ b, a0.data.toList.getD (i + 1) 0 = b := ⟨_, rfl⟩
          rw [hB'] at he
          simp only [sha_Unhex.go] at he
          have hx1 := sha_Unhex.at_ a0 i a (by rw [HN.out]; exact hlt) hA
          have hx2 := sha_Unhex.at_ a0 (i + 1) b (by rw [HN.out]; omega) hB'
          obtain ⟨i1, hi1⟩ : ∃ i1, i + 1 = i1 := ⟨_, rfl⟩
          have HW : Aside0 (IntKind.i64.wrap ((i : Int) + 1) = (i1 : Int)) := ⟨by
            have := HZ.out
            rw [IntWalk.i64_in _ (by omega)]; omega⟩
          rw [hi1] at hx2 he hl1
          have hra := sha_Unhex.dig_range a
          have hrb := sha_Unhex.dig_range b
          have H1 := Aside0.mk (sha_Unhex.ixb a)
          have H2 := Aside0.mk (sha_Unhex.ixb b)
          have HBY := Aside0.mk (show sha_Unhex.byte a b = ((sha_Unhex.dig a).toNat * 16 + (sha_Unhex.dig b).toNat).toUInt8 from rfl)
          generalize sha_Unhex.dig a = x at *
          generalize sha_Unhex.dig b = y at *
          have HI2 := Aside0.mk (show i + 2 ≤ n by omega)
          have HI1 := Aside0.mk hi1
          clear hi hl hl1 hA ha hb hB' HE hi1 hend
          by_cases hneg : x < 0 ∨ y < 0
          · rw [if_pos hneg] at he
            have HE2 := Aside0.mk he
            clear he
            have dn : decide (min x y < 0) = true := decide_eq_true (by omega)
            by_cases hyx : y < x
            · have dn2 : decide (y < 0) = true := decide_eq_true (by omega)
              clear hneg hra hrb
              have HN2 := HN.out
              go_upto_region 7 with fail
              have hw := HW.out
              go_quiet (first | (go_at_call 38; exact Calls.quiet_of_same (H1.out _)) | (go_at_call 38; exact Calls.quiet_of_same (H2.out _)))
              clear hw
              go_wp2
              go_ret2
              obtain ⟨rfl, rfl⟩ := Prod.mk.inj HE2.out
              exact ⟨rfl, pw_below_drewN HB.out _⟩
            · have dn2 : decide (x < 0) = true := decide_eq_true (by omega)
              clear hneg hra hrb
              have HN2 := HN.out
              go_upto_region 7 with fail
              have hw := HW.out
              go_quiet (first | (go_at_call 38; exact Calls.quiet_of_same (H1.out _)) | (go_at_call 38; exact Calls.quiet_of_same (H2.out _)))
              clear hw
              go_wp2
              go_ret2
              obtain ⟨rfl, rfl⟩ := Prod.mk.inj HE2.out
              exact ⟨rfl, pw_below_drewN HB.out _⟩
          · rw [if_neg hneg] at he
            have HE2 := Aside0.mk he
            clear he
            obtain ⟨xn, hxn⟩ : ∃ xn : Nat, x = (xn : Int) := ⟨x.toNat, by omega⟩
            obtain ⟨yn, hyn⟩ : ∃ yn : Nat, y = (yn : Int) := ⟨y.toNat, by omega⟩
            subst hxn hyn
            have HX := Aside0.mk (show xn ≤ 15 by omega)
            have HY := Aside0.mk (show yn ≤ 15 by omega)
            clear hneg hra hrb
            have HBY2 : Aside0 (sha_Unhex.byte a b = (xn * 16 + yn).toUInt8) := ⟨by rw [HBY.out]; simp⟩
            clear HBY
            have dn : decide (min (xn : Int) (yn : Int) < 0) = false := decide_eq_false (by omega)
            by_cases hyx : (yn : Int) < (xn : Int)
            · have dn2 : decide ((yn : Int) < 0) = false := decide_eq_false (by omega)
              have HN2 := HN.out
              have QO := Aside0.mk (sha_Unhex.or_told xn yn HX.out HY.out)
              go_upto_region 7 with fail
              have hw := HW.out
              go_quiet (first | (go_at_call 38; exact Calls.quiet_of_same (H1.out _)) | (go_at_call 38; exact Calls.quiet_of_same (H2.out _)))
              clear hw
              go_upto_region 10 with fail
              have HQ := Aside0.mk (sha_Unhex.bld_drewN H.out nq)
              have HQB := Aside0.mk (pw_below_drewN HB.out nq)
              clear H HB
              generalize wr.drewN nq = wq at *
              go_wp2_with (first | (go_at_call 36; rw [QO.out]; (with_reducible refine (Sha.wb_calls w.heap.size w.heap.size _ _ _ (xn * 16 + yn).toUInt8 _ HQ.out HQB.out.size (by have := HA.out; have := HZ.out; have := HI2.out; omega)).mono ?_); rintro e w5 ⟨rfl, ⟨v5, h5, hat5⟩, hb5, hk5⟩; have N1 := Aside0.mk h5; have N4 := Aside0.mk (HQB.out.trans hb5); clear h5 hat5 hb5 hk5 HQ HQB))
              have QI : wrap64 ((i : Int) + 2) = ((i + 2 : Nat) : Int) := by have := HZ.out; have := HI2.out; clear d1 d2 dn hlt; unfold wrap64; omega
              rw [QI]
              have e2 := HE2.out
              rw [← HI1.out, HBY2.out] at e2
              refine ⟨⟨i + 2, _, _, _, HI2.out, rfl, ⟨e2⟩, ⟨by have := HA.out; rw [List.length_append, List.length_singleton]; omega⟩, N1, N4⟩, ?_⟩
              clear d1 d2 dn QI
              simp only [intOf]
              omega
            · have dn2 : decide ((xn : Int) < 0) = false := decide_eq_false (by omega)
              have HN2 := HN.out
              have QO := Aside0.mk (sha_Unhex.or_told xn yn HX.out HY.out)
              go_upto_region 7 with fail
              have hw := HW.out
              go_quiet (first | (go_at_call 38; exact Calls.quiet_of_same (H1.out _)) | (go_at_call 38; exact Calls.quiet_of_same (H2.out _)))
              clear hw
              go_upto_region 10 with fail
              have HQ := Aside0.mk (sha_Unhex.bld_drewN H.out nq)
              have HQB := Aside0.mk (pw_below_drewN HB.out nq)
              clear H HB
              generalize wr.drewN nq = wq at *
              go_wp2_with (first | (go_at_call 36; rw [QO.out]; (with_reducible refine (Sha.wb_calls w.heap.size w.heap.size _ _ _ (xn * 16 + yn).toUInt8 _ HQ.out HQB.out.size (by have := HA.out; have := HZ.out; have := HI2.out; omega)).mono ?_); rintro e w5 ⟨rfl, ⟨v5, h5, hat5⟩, hb5, hk5⟩; have N1 := Aside0.mk h5; have N4 := Aside0.mk (HQB.out.trans hb5); clear h5 hat5 hb5 hk5 HQ HQB))
              have QI : wrap64 ((i : Int) + 2) = ((i + 2 : Nat) : Int) := by have := HZ.out; have := HI2.out; clear d1 d2 dn hlt; unfold wrap64; omega
              rw [QI]
              have e2 := HE2.out
              rw [← HI1.out, HBY2.out] at e2
              refine ⟨⟨i + 2, _, _, _, HI2.out, rfl, ⟨e2⟩, ⟨by have := HA.out; rw [List.length_append, List.length_singleton]; omega⟩, N1, N4⟩, ?_⟩
              clear d1 d2 dn QI
              simp only [intOf]
              omega
      · obtain rfl : i = n := by omega
        have d1 : decide ((i : Int) < (i : Int)) = false := decide_eq_false (by omega)
        have he := HE.out
        rw [List.drop_eq_nil_of_le (by rw [HLN.out]; exact Nat.le_refl _)] at he
        simp only [sha_Unhex.go] at he
        have HE2 := Aside0.mk he
        have HN2 := HN.out
        clear hi hlt he HE
        go_wp2_with (first | (go_at_call 37; (with_reducible refine (Sha.str_calls w.heap.size w.heap.size _ _ _ _ H.out HB.out.size).mono ?_); rintro e w5 ⟨rfl, hb5⟩; have HB5 := Aside0.mk (HB.out.trans hb5); clear hb5))
        go_ret2
        obtain ⟨rfl, rfl⟩ := Prod.mk.inj HE2.out
        exact ⟨rfl, HB5.out⟩
  · rw [if_neg hz] at h
    cases h

/-! ### garretref02_digit: function 39 -/
def garretref02_digit.j0 : Nat → Int → Bool → Option (Int)
  | 0, _, _ => none
  | k + 1, x0, x3 => if x3 = true then (some ((x0 - 48) % 256)) else (if x0 ≥ 97 then (if x0 ≤ 102 then (some (((x0 - 97) % 256) + 10)) else (some (-1))) else (some (-1)))
def garretref02_digit.f (k : Nat) (a0 : Int) : Option (Int) := if a0 ≥ 48 then (garretref02_digit.j0 k a0 (decide (a0 ≤ 57))) else (garretref02_digit.j0 k a0 false)
theorem garretref02_digit.mono_l : ∀ k, (∀ y0 y1, LeO (garretref02_digit.j0 k y0 y1) (garretref02_digit.j0 (k + 1) y0 y1))
  | 0 => fun _ _ r h => by simp [garretref02_digit.j0] at h
  | k + 1 => by
    have ih0 := garretref02_digit.mono_l k
    · intro y0 y1
      unfold garretref02_digit.j0
      repeat' first
      | (with_reducible exact ih0 _ _)
      | (with_reducible exact LeO.refl _)
      | (with_reducible exact LeO.none _)
      | (with_reducible refine LeO.ite ?_ ?_)
      | (with_reducible refine LeO.bind ?_ (fun _ => ?_))
      | exact ih0 _ _
      | exact LeO.none _
      | refine LeO.ite ?_ ?_
      | refine LeO.bind ?_ (fun _ => ?_)
theorem garretref02_digit.mono : ∀ a0 k, LeO (garretref02_digit.f k a0) (garretref02_digit.f (k + 1) a0) := by
  intro a0 k
  have ih0 := garretref02_digit.mono_l k
  unfold garretref02_digit.f
  repeat' first
      | (with_reducible exact ih0 _ _)
      | (with_reducible exact LeO.refl _)
      | (with_reducible exact LeO.none _)
      | (with_reducible refine LeO.ite ?_ ?_)
      | (with_reducible refine LeO.bind ?_ (fun _ => ?_))
      | exact ih0 _ _
      | exact LeO.none _
      | refine LeO.ite ?_ ?_
      | refine LeO.bind ?_ (fun _ => ?_)
set_option maxHeartbeats 8000000 in
set_option maxRecDepth 100000 in
theorem garretref02_digit.calls (k : Nat) (a0 : Int) (r : Int) (w : World) (h : garretref02_digit.f k a0 = some r) :
    Calls Tryd.prog 39 #[.int .u8 a0] w fun e w' => e = .returned (.int .i64 r) ∧ Drawn0 w w' := by
  have H : (if a0 ≥ 48 then (garretref02_digit.j0 k a0 (decide (a0 ≤ 57))) else (garretref02_digit.j0 k a0 false)) = some r := h
  clear h
  have HC2 := Aside0.mk H
  clear H
  go_enter Tryd.func39, Tryd.ntmps39
  go_upto_region 1 with (fail)
  go_cut [3] (fun v3 wc => ∃ (kq : Nat) (x3_1 : Bool), v3 = .bool x3_1 ∧ Aside0 (garretref02_digit.j0 kq a0 x3_1 = some r) ∧ Aside0 (kq ≤ k) ∧ Drawn0 w wc)
  case first =>
    have H := HC2.out
    clear HC2
    by_cases c3 : a0 ≥ 48
    · rw [if_pos c3] at H
      have c3b0 : decide (48 ≤ a0) = true := decide_eq_true c3
      clear c3
      (first | rw [c3b0] | (simp only [i64_w, i32_w]; rw [c3b0]) | skip)
      have H' := Aside0.mk H
      clear H
      go_wp2
      go_meet
      case rel => exact ⟨_, (decide (a0 ≤ 57)), (by first | rfl | (simp; done) | (simp [*]; done) | (simp; exact (by decide : ∀ p q : Bool, (p == q) = (!(p != q))) _ _) | (simp; exact (by decide : ∀ p q : Bool, (!(p != q)) = (p == q)) _ _)), H', ⟨by first | omega | exact Nat.le_refl _⟩, by repeat (first | exact Drawn0.refl _ | apply Drawn0.step)⟩
    · rw [if_neg c3] at H
      have c3b0 : decide (48 ≤ a0) = false := decide_eq_false c3
      clear c3
      (first | rw [c3b0] | (simp only [i64_w, i32_w]; rw [c3b0]) | skip)
      have H' := Aside0.mk H
      clear H
      go_wp2
      go_meet
      case rel => exact ⟨_, (false), (by first | rfl | (simp; done) | (simp [*]; done) | (simp; exact (by decide : ∀ p q : Bool, (p == q) = (!(p != q))) _ _) | (simp; exact (by decide : ∀ p q : Bool, (!(p != q)) = (p == q)) _ _)), H', ⟨by first | omega | exact Nat.le_refl _⟩, by repeat (first | exact Drawn0.refl _ | apply Drawn0.step)⟩
  case rest =>
    clear HC2
    try clear p2
    try clear c3
    try clear c3b0
    obtain ⟨kq, x3_1, rfl, HA, HJ1, ⟨mc1, rfl⟩⟩ := hcut
    cases kq with
    | zero => exact absurd HA.out (by simp [garretref02_digit.j0])
    | succ kj1 =>
      have H := HA.out
      clear HA
      simp only [garretref02_digit.j0] at H
      by_cases c4 : x3_1 = true
      · subst c4
        have H1 : (some ((a0 - 48) % 256)) = some r := by rw [if_pos rfl] at H; exact H
        clear H
        have H := H1
        clear H1
        obtain rfl := Option.some.inj H
        go_wp2
        go_ret
        exact ⟨by first | rfl | (simp; done) | (simp [*]; done) | (simp; exact (by decide : ∀ p q : Bool, (p == q) = (!(p != q))) _ _) | (simp; exact (by decide : ∀ p q : Bool, (!(p != q)) = (p == q)) _ _), by repeat (first | exact Drawn0.refl _ | apply Drawn0.step)⟩
      · replace c4 := Bool.eq_false_iff.mpr c4
        subst c4
        have H1 : (if a0 ≥ 97 then (if a0 ≤ 102 then (some (((a0 - 97) % 256) + 10)) else (some (-1))) else (some (-1))) = some r := by rw [if_neg (show ¬ (false = true) by decide)] at H; exact H
        clear H
        have H := H1
        clear H1
        by_cases c5 : a0 ≥ 97
        · rw [if_pos c5] at H
          have c5b0 : decide (97 ≤ a0) = true := decide_eq_true c5
          clear c5
          by_cases c6 : a0 ≤ 102
          · rw [if_pos c6] at H
            have c6b0 : decide (a0 ≤ 102) = true := decide_eq_true c6
            clear c6
            obtain rfl := Option.some.inj H
            go_wp2
            go_ret
            exact ⟨by first | rfl | (simp; done) | (simp [*]; done) | (simp; exact (by decide : ∀ p q : Bool, (p == q) = (!(p != q))) _ _) | (simp; exact (by decide : ∀ p q : Bool, (!(p != q)) = (p == q)) _ _), by repeat (first | exact Drawn0.refl _ | apply Drawn0.step)⟩
          · rw [if_neg c6] at H
            have c6b0 : decide (a0 ≤ 102) = false := decide_eq_false c6
            clear c6
            obtain rfl := Option.some.inj H
            go_wp2
            go_ret
            exact ⟨by first | rfl | (simp; done) | (simp [*]; done) | (simp; exact (by decide : ∀ p q : Bool, (p == q) = (!(p != q))) _ _) | (simp; exact (by decide : ∀ p q : Bool, (!(p != q)) = (p == q)) _ _), by repeat (first | exact Drawn0.refl _ | apply Drawn0.step)⟩
        · rw [if_neg c5] at H
          have c5b0 : decide (97 ≤ a0) = false := decide_eq_false c5
          clear c5
          obtain rfl := Option.some.inj H
          go_wp2
          go_ret
          exact ⟨by first | rfl | (simp; done) | (simp [*]; done) | (simp; exact (by decide : ∀ p q : Bool, (p == q) = (!(p != q))) _ _) | (simp; exact (by decide : ∀ p q : Bool, (!(p != q)) = (p == q)) _ _), by repeat (first | exact Drawn0.refl _ | apply Drawn0.step)⟩

/-! ### garretref02_Unhex: function 24 -/
def garretref02_Unhex.l0 : Nat → ByteArray → List Int → Int → Option (ByteArray × Int)
  | 0, _, _, _ => none
  | k + 1, x0, x4, x5 => if x5 < (x0.size : Int) then (if 0 ≤ x5 then ((garretref02_digit.f k (bt x0 x5)).bind fun t111 => (if 0 ≤ (wrap64 (x5 + 1)) then (if (wrap64 (x5 + 1)) < (x0.size : Int) then ((garretref02_digit.f k (bt x0 (wrap64 (x5 + 1)))).bind fun t112 => (if t111 < 0 then (some ((⟨#[]⟩ : ByteArray), 3)) else (if t112 < 0 then (some ((⟨#[]⟩ : ByteArray), 3)) else (if x4.length < 140737488355328 then (garretref02_Unhex.l0 k x0 (x4 ++ [(wrap64 ((wrap64 (16 * t111)) + t112)) % 256]) (wrap64 (x5 + 2))) else (none))))) else (none)) else (none))) else (none)) else (some (strOfNums x4, 0))
def garretref02_Unhex.f (k : Nat) (a0 : ByteArray) : Option (ByteArray × Int) := if ((a0.size : Int) % 2) = 0 then (garretref02_Unhex.l0 k a0 ([] : List Int) 0) else (some ((⟨#[]⟩ : ByteArray), 3))
theorem garretref02_Unhex.mono_l : ∀ k, (∀ y0 y1 y2, LeO (garretref02_Unhex.l0 k y0 y1 y2) (garretref02_Unhex.l0 (k + 1) y0 y1 y2))
  | 0 => fun _ _ _ r h => by simp [garretref02_Unhex.l0] at h
  | k + 1 => by
    have ih0 := garretref02_Unhex.mono_l k
    · intro y0 y1 y2
      unfold garretref02_Unhex.l0
      repeat' first
      | (with_reducible exact ih0 _ _ _)
      | (with_reducible exact garretref02_digit.mono _ _)
      | (with_reducible exact LeO.refl _)
      | (with_reducible exact LeO.none _)
      | (with_reducible refine LeO.ite ?_ ?_)
      | (with_reducible refine LeO.bind ?_ (fun _ => ?_))
      | exact ih0 _ _ _
      | exact garretref02_digit.mono _ _
      | exact LeO.none _
      | refine LeO.ite ?_ ?_
      | refine LeO.bind ?_ (fun _ => ?_)
theorem garretref02_Unhex.mono : ∀ a0 k, LeO (garretref02_Unhex.f k a0) (garretref02_Unhex.f (k + 1) a0) := by
  intro a0 k
  have ih0 := garretref02_Unhex.mono_l k
  unfold garretref02_Unhex.f
  repeat' first
      | (with_reducible exact ih0 _ _ _)
      | (with_reducible exact garretref02_digit.mono _ _)
      | (with_reducible exact LeO.refl _)
      | (with_reducible exact LeO.none _)
      | (with_reducible refine LeO.ite ?_ ?_)
      | (with_reducible refine LeO.bind ?_ (fun _ => ?_))
      | exact ih0 _ _ _
      | exact garretref02_digit.mono _ _
      | exact LeO.none _
      | refine LeO.ite ?_ ?_
      | refine LeO.bind ?_ (fun _ => ?_)
set_option maxHeartbeats 8000000 in
set_option maxRecDepth 100000 in
theorem garretref02_Unhex.calls (k : Nat) (a0 : ByteArray) (r1 : ByteArray) (r2 : Int) (w : World) (h : garretref02_Unhex.f k a0 = some (r1, r2)) :
    Calls Tryd.prog 24 #[.string a0] w fun e w' => e = .returned (.tuple #[.string r1, .int .i64 r2]) ∧ Below w.heap.size w w' := by
  have HB := Aside0.mk (Below.refl w.heap.size w)
  have H : (if ((a0.size : Int) % 2) = 0 then (garretref02_Unhex.l0 k a0 ([] : List Int) 0) else (some ((⟨#[]⟩ : ByteArray), 3))) = some (r1, r2) := h
  clear h
  by_cases c2 : ((a0.size : Int) % 2) = 0
  · rw [if_pos c2] at H
    have c2b0 : (((a0.size : Int) % 2) == 0) = true := beq_iff_eq.mpr c2
    have c2b1 : (((a0.size : Int) % 2) != 0) = false := bne_eq_false_iff_eq.mpr c2
    clear c2
    have H' := Aside0.mk H
    clear H
    go_enter Tryd.func24, Tryd.ntmps24
    go_wp2
    repeat (go_quiet (fail); try go_wp2)
    go_loopg [4, 5] k (fun kq v4 v5 w' => ∃ (x4_1 : List Int) (x5_1 : Int), v5 = .int .i64 x5_1 ∧ Aside0 (garretref02_Unhex.l0 kq a0 x4_1 x5_1 = some (r1, r2)) ∧ Aside0 (kq ≤ k) ∧ Aside0 (Kd.R (Kd.int .u8) 5 w' w.heap.size (fun _ => True) v4 x4_1) ∧ Aside0 (Below w.heap.size w w'))
    case atStart => exact ⟨(([] : List Int)), (0), (by first | rfl | (simp; done) | (simp [*]; done) | (simp; exact (by decide : ∀ p q : Bool, (p == q) = (!(p != q))) _ _) | (simp; exact (by decide : ∀ p q : Bool, (!(p != q)) = (p == q)) _ _)), H', ⟨Nat.le_refl _⟩, ⟨by first | exact Kd.R_nil _ _ _ _ _ | exact Kd.N_nil _ _ _ _ _ | exact Kd.V_nil _ _ _ _ _ | exact Kd.Q_nil _ _ _ _ _ | exact Kd.S_nil _ _ _ _ _⟩, ⟨by repeat (first | (with_reducible first | exact HB.out | apply below_alloc | apply pw_below_drewN | apply below_drew1) | exact HB.out)⟩⟩
    case round =>
      clear H'
      try clear c2
      try clear c2b0
      try clear c2b1
      try clear p2
      obtain ⟨x4_1, x5_1, rfl, HA, HK1, HO_4, HB⟩ := hrel
      cases gk with
      | zero => exact absurd HA.out (by simp [garretref02_Unhex.l0])
      | succ k1 =>
        have H := HA.out
        clear HA
        simp only [garretref02_Unhex.l0] at H
        by_cases c3 : x5_1 < (a0.size : Int)
        · rw [if_pos c3] at H
          have c3b0 : decide (x5_1 < (a0.size : Int)) = true := decide_eq_true c3
          clear c3
          by_cases c4 : 0 ≤ x5_1
          · rw [if_pos c4] at H
            have c4b0 : decide (0 ≤ x5_1) = true := decide_eq_true c4
            clear c4
            replace H := Option.bind_eq_some_iff.mp H
            obtain ⟨t111, A60, H⟩ := H
            replace H : (if 0 ≤ (wrap64 (x5_1 + 1)) then (if (wrap64 (x5_1 + 1)) < (a0.size : Int) then ((garretref02_digit.f k1 (bt a0 (wrap64 (x5_1 + 1)))).bind fun t112 => (if t111 < 0 then (some ((⟨#[]⟩ : ByteArray), 3)) else (if t112 < 0 then (some ((⟨#[]⟩ : ByteArray), 3)) else (if x4_1.length < 140737488355328 then (garretref02_Unhex.l0 k1 a0 (x4_1 ++ [(wrap64 ((wrap64 (16 * t111)) + t112)) % 256]) (wrap64 (x5_1 + 2))) else (none))))) else (none)) else (none)) = some (r1, r2) := H
            have A6 := Aside0.mk A60
            clear A60
            obtain ⟨ji7, hji7⟩ : ∃ j_ : Int, (wrap64 (x5_1 + 1)) = j_ := ⟨_, rfl⟩
            replace H : (if 0 ≤ (ji7) then (if (ji7) < (a0.size : Int) then ((garretref02_digit.f k1 (bt a0 (ji7))).bind fun t112 => (if t111 < 0 then (some ((⟨#[]⟩ : ByteArray), 3)) else (if t112 < 0 then (some ((⟨#[]⟩ : ByteArray), 3)) else (if x4_1.length < 140737488355328 then (garretref02_Unhex.l0 k1 a0 (x4_1 ++ [(wrap64 ((wrap64 (16 * t111)) + t112)) % 256]) (wrap64 (x5_1 + 2))) else (none))))) else (none)) else (none)) = some (r1, r2) := by first | (rw [hji7] at H; exact H) | (simp only [hji7] at H ⊢; exact H)
            (try rw [hji7] at A6)
            have hji7w : (IntKind.i64.wrap (x5_1 + 1)) = ji7 := (i64_w _).trans hji7
            by_cases c8 : 0 ≤ (ji7)
            · rw [if_pos c8] at H
              have c8b0 : decide (0 ≤ (ji7)) = true := decide_eq_true c8
              clear c8
              by_cases c9 : (ji7) < (a0.size : Int)
              · rw [if_pos c9] at H
                have c9b0 : decide ((ji7) < (a0.size : Int)) = true := decide_eq_true c9
                clear c9
                replace H := Option.bind_eq_some_iff.mp H
                obtain ⟨t112, A110, H⟩ := H
                replace H : (if t111 < 0 then (some ((⟨#[]⟩ : ByteArray), 3)) else (if t112 < 0 then (some ((⟨#[]⟩ : ByteArray), 3)) else (if x4_1.length < 140737488355328 then (garretref02_Unhex.l0 k1 a0 (x4_1 ++ [(wrap64 ((wrap64 (16 * t111)) + t112)) % 256]) (wrap64 (x5_1 + 2))) else (none)))) = some (r1, r2) := H
                have A11 := Aside0.mk A110
                clear A110
                by_cases c12 : t111 < 0
                · rw [if_pos c12] at H
                  have c12b0 : decide (t111 < 0) = true := decide_eq_true c12
                  clear c12
                  simp only [Option.some.injEq, Prod.mk.injEq] at H
                  obtain ⟨rfl, rfl⟩ := H
                  have p5 : 0 ≤ (x5_1 : Int) := of_decide_eq_true (by first | (with_reducible assumption) | assumption)
                  have q5 : x5_1 < (a0.size : Int) := of_decide_eq_true (by first | (with_reducible assumption) | assumption)
                  have hx5 := bt_at a0 x5_1
                  replace p5 := eq_true p5
                  replace q5 := eq_true q5
                  go_wp2_with (first | (go_at_call 39; (with_reducible refine (garretref02_digit.calls k1 (bt a0 x5_1) t111 _ A6.out).mono ?_); rintro e w' ⟨rfl, ⟨nd, rfl⟩⟩; (try first | exact ⟨rfl, _, World.drewN_drewN _ _ _⟩ | exact ⟨rfl, _, Eq.trans (World.drewN_drewN _ _ _) (congrArg (World.drewN _) (Nat.add_assoc _ _ _))⟩); have p10 : 0 ≤ ((ji7) : Int) := of_decide_eq_true (by first | (with_reducible assumption) | assumption); have q10 : (ji7) < (a0.size : Int) := of_decide_eq_true (by first | (with_reducible assumption) | assumption); have hx10 := bt_at a0 (ji7); replace p10 := eq_true p10; replace q10 := eq_true q10) | (go_at_call 39; (with_reducible refine (garretref02_digit.calls k1 (bt a0 (ji7)) t112 _ A11.out).mono ?_); rintro e w' ⟨rfl, ⟨nd, rfl⟩⟩; (try first | exact ⟨rfl, _, World.drewN_drewN _ _ _⟩ | exact ⟨rfl, _, Eq.trans (World.drewN_drewN _ _ _) (congrArg (World.drewN _) (Nat.add_assoc _ _ _))⟩)))
                  repeat (go_quiet (first | (go_at_call 39; (with_reducible refine (garretref02_digit.calls k1 (bt a0 x5_1) t111 _ A6.out).mono ?_); rintro e w' ⟨rfl, ⟨nd, rfl⟩⟩; (try first | exact ⟨rfl, _, World.drewN_drewN _ _ _⟩ | exact ⟨rfl, _, Eq.trans (World.drewN_drewN _ _ _) (congrArg (World.drewN _) (Nat.add_assoc _ _ _))⟩); have p10 : 0 ≤ ((ji7) : Int) := of_decide_eq_true (by first | (with_reducible assumption) | assumption); have q10 : (ji7) < (a0.size : Int) := of_decide_eq_true (by first | (with_reducible assumption) | assumption); have hx10 := bt_at a0 (ji7); replace p10 := eq_true p10; replace q10 := eq_true q10) | (go_at_call 39; (with_reducible refine (garretref02_digit.calls k1 (bt a0 (ji7)) t112 _ A11.out).mono ?_); rintro e w' ⟨rfl, ⟨nd, rfl⟩⟩; (try first | exact ⟨rfl, _, World.drewN_drewN _ _ _⟩ | exact ⟨rfl, _, Eq.trans (World.drewN_drewN _ _ _) (congrArg (World.drewN _) (Nat.add_assoc _ _ _))⟩))); try go_wp2_with (first | (go_at_call 39; (with_reducible refine (garretref02_digit.calls k1 (bt a0 x5_1) t111 _ A6.out).mono ?_); rintro e w' ⟨rfl, ⟨nd, rfl⟩⟩; (try first | exact ⟨rfl, _, World.drewN_drewN _ _ _⟩ | exact ⟨rfl, _, Eq.trans (World.drewN_drewN _ _ _) (congrArg (World.drewN _) (Nat.add_assoc _ _ _))⟩); have p10 : 0 ≤ ((ji7) : Int) := of_decide_eq_true (by first | (with_reducible assumption) | assumption); have q10 : (ji7) < (a0.size : Int) := of_decide_eq_true (by first | (with_reducible assumption) | assumption); have hx10 := bt_at a0 (ji7); replace p10 := eq_true p10; replace q10 := eq_true q10) | (go_at_call 39; (with_reducible refine (garretref02_digit.calls k1 (bt a0 (ji7)) t112 _ A11.out).mono ?_); rintro e w' ⟨rfl, ⟨nd, rfl⟩⟩; (try first | exact ⟨rfl, _, World.drewN_drewN _ _ _⟩ | exact ⟨rfl, _, Eq.trans (World.drewN_drewN _ _ _) (congrArg (World.drewN _) (Nat.add_assoc _ _ _))⟩))))
                  go_ret2
                  exact ⟨by first | rfl | (simp [errW_none, errW_some] <;> rfl) | (simp only [← hji7]; first | rfl | (simp [errW_none, errW_some] <;> rfl)) | (simp [*, errW_none, errW_some] <;> rfl), by repeat (first | (with_reducible first | exact HB.out | apply below_alloc | apply pw_below_drewN | apply below_drew1) | exact HB.out)⟩
                · rw [if_neg c12] at H
                  have c12b0 : decide (t111 < 0) = false := decide_eq_false c12
                  clear c12
                  by_cases c13 : t112 < 0
                  · rw [if_pos c13] at H
                    have c13b0 : decide (t112 < 0) = true := decide_eq_true c13
                    clear c13
                    simp only [Option.some.injEq, Prod.mk.injEq] at H
                    obtain ⟨rfl, rfl⟩ := H
                    have p5 : 0 ≤ (x5_1 : Int) := of_decide_eq_true (by first | (with_reducible assumption) | assumption)
                    have q5 : x5_1 < (a0.size : Int) := of_decide_eq_true (by first | (with_reducible assumption) | assumption)
                    have hx5 := bt_at a0 x5_1
                    replace p5 := eq_true p5
                    replace q5 := eq_true q5
                    go_wp2_with (first | (go_at_call 39; (with_reducible refine (garretref02_digit.calls k1 (bt a0 x5_1) t111 _ A6.out).mono ?_); rintro e w' ⟨rfl, ⟨nd, rfl⟩⟩; (try first | exact ⟨rfl, _, World.drewN_drewN _ _ _⟩ | exact ⟨rfl, _, Eq.trans (World.drewN_drewN _ _ _) (congrArg (World.drewN _) (Nat.add_assoc _ _ _))⟩); have p10 : 0 ≤ ((ji7) : Int) := of_decide_eq_true (by first | (with_reducible assumption) | assumption); have q10 : (ji7) < (a0.size : Int) := of_decide_eq_true (by first | (with_reducible assumption) | assumption); have hx10 := bt_at a0 (ji7); replace p10 := eq_true p10; replace q10 := eq_true q10) | (go_at_call 39; (with_reducible refine (garretref02_digit.calls k1 (bt a0 (ji7)) t112 _ A11.out).mono ?_); rintro e w' ⟨rfl, ⟨nd, rfl⟩⟩; (try first | exact ⟨rfl, _, World.drewN_drewN _ _ _⟩ | exact ⟨rfl, _, Eq.trans (World.drewN_drewN _ _ _) (congrArg (World.drewN _) (Nat.add_assoc _ _ _))⟩)))
                    repeat (go_quiet (first | (go_at_call 39; (with_reducible refine (garretref02_digit.calls k1 (bt a0 x5_1) t111 _ A6.out).mono ?_); rintro e w' ⟨rfl, ⟨nd, rfl⟩⟩; (try first | exact ⟨rfl, _, World.drewN_drewN _ _ _⟩ | exact ⟨rfl, _, Eq.trans (World.drewN_drewN _ _ _) (congrArg (World.drewN _) (Nat.add_assoc _ _ _))⟩); have p10 : 0 ≤ ((ji7) : Int) := of_decide_eq_true (by first | (with_reducible assumption) | assumption); have q10 : (ji7) < (a0.size : Int) := of_decide_eq_true (by first | (with_reducible assumption) | assumption); have hx10 := bt_at a0 (ji7); replace p10 := eq_true p10; replace q10 := eq_true q10) | (go_at_call 39; (with_reducible refine (garretref02_digit.calls k1 (bt a0 (ji7)) t112 _ A11.out).mono ?_); rintro e w' ⟨rfl, ⟨nd, rfl⟩⟩; (try first | exact ⟨rfl, _, World.drewN_drewN _ _ _⟩ | exact ⟨rfl, _, Eq.trans (World.drewN_drewN _ _ _) (congrArg (World.drewN _) (Nat.add_assoc _ _ _))⟩))); try go_wp2_with (first | (go_at_call 39; (with_reducible refine (garretref02_digit.calls k1 (bt a0 x5_1) t111 _ A6.out).mono ?_); rintro e w' ⟨rfl, ⟨nd, rfl⟩⟩; (try first | exact ⟨rfl, _, World.drewN_drewN _ _ _⟩ | exact ⟨rfl, _, Eq.trans (World.drewN_drewN _ _ _) (congrArg (World.drewN _) (Nat.add_assoc _ _ _))⟩); have p10 : 0 ≤ ((ji7) : Int) := of_decide_eq_true (by first | (with_reducible assumption) | assumption); have q10 : (ji7) < (a0.size : Int) := of_decide_eq_true (by first | (with_reducible assumption) | assumption); have hx10 := bt_at a0 (ji7); replace p10 := eq_true p10; replace q10 := eq_true q10) | (go_at_call 39; (with_reducible refine (garretref02_digit.calls k1 (bt a0 (ji7)) t112 _ A11.out).mono ?_); rintro e w' ⟨rfl, ⟨nd, rfl⟩⟩; (try first | exact ⟨rfl, _, World.drewN_drewN _ _ _⟩ | exact ⟨rfl, _, Eq.trans (World.drewN_drewN _ _ _) (congrArg (World.drewN _) (Nat.add_assoc _ _ _))⟩))))
                    go_ret2
                    exact ⟨by first | rfl | (simp [errW_none, errW_some] <;> rfl) | (simp only [← hji7]; first | rfl | (simp [errW_none, errW_some] <;> rfl)) | (simp [*, errW_none, errW_some] <;> rfl), by repeat (first | (with_reducible first | exact HB.out | apply below_alloc | apply pw_below_drewN | apply below_drew1) | exact HB.out)⟩
                  · rw [if_neg c13] at H
                    have c13b0 : decide (t112 < 0) = false := decide_eq_false c13
                    clear c13
                    by_cases c14 : x4_1.length < 140737488355328
                    · rw [if_pos c14] at H
                      have LMc14 := Aside0.mk c14
                      clear c14
                      obtain ⟨y113, hy113⟩ : ∃ y_ : List Int, y_ = (x4_1 ++ [(wrap64 ((wrap64 (16 * t111)) + t112)) % 256]) := ⟨_, rfl⟩
                      replace H : (garretref02_Unhex.l0 k1 a0 y113 (wrap64 (x5_1 + 2))) = some (r1, r2) := by first | (rw [hy113]; with_reducible exact H) | (have H2_ := (Option.bind_some _ _).symm.trans H; rw [hy113]; with_reducible exact H2_) | (have H2_ := (Option.bind_some _ _).symm.trans H; with_reducible exact H2_) | with_reducible exact H | (rw [hy113]; exact H) | exact H
                      have Ny113 := Aside0.mk hy113
                      clear hy113
                      have H' := Aside0.mk H
                      clear H
                      have p5 : 0 ≤ (x5_1 : Int) := of_decide_eq_true (by first | (with_reducible assumption) | assumption)
                      have q5 : x5_1 < (a0.size : Int) := of_decide_eq_true (by first | (with_reducible assumption) | assumption)
                      have hx5 := bt_at a0 x5_1
                      replace p5 := eq_true p5
                      replace q5 := eq_true q5
                      go_wp2_with (first | (go_at_call 39; (with_reducible refine (garretref02_digit.calls k1 (bt a0 x5_1) t111 _ A6.out).mono ?_); rintro e w' ⟨rfl, ⟨nd, rfl⟩⟩; (try first | exact ⟨rfl, _, World.drewN_drewN _ _ _⟩ | exact ⟨rfl, _, Eq.trans (World.drewN_drewN _ _ _) (congrArg (World.drewN _) (Nat.add_assoc _ _ _))⟩); have p10 : 0 ≤ ((ji7) : Int) := of_decide_eq_true (by first | (with_reducible assumption) | assumption); have q10 : (ji7) < (a0.size : Int) := of_decide_eq_true (by first | (with_reducible assumption) | assumption); have hx10 := bt_at a0 (ji7); replace p10 := eq_true p10; replace q10 := eq_true q10) | (go_at_call 39; (with_reducible refine (garretref02_digit.calls k1 (bt a0 (ji7)) t112 _ A11.out).mono ?_); rintro e w' ⟨rfl, ⟨nd, rfl⟩⟩; (try first | exact ⟨rfl, _, World.drewN_drewN _ _ _⟩ | exact ⟨rfl, _, Eq.trans (World.drewN_drewN _ _ _) (congrArg (World.drewN _) (Nat.add_assoc _ _ _))⟩)) | ((with_reducible refine gate_builtin (b := .append) (xs := #[.tmp 33, .tmp 39]) rfl ?_); at_builtin; refine Kd.R_append (Kd.int .u8) (w0 := w) w.heap.size rfl (.tmp 33) (.tmp 39) 42 5 (.int .u8 0) 1 rfl Tryd.underlying42 info5 rfl (by decide) (by omega) u4 x4_1 ((wrap64 ((wrap64 (16 * t111)) + t112)) % 256) [.int .u8 ((wrap64 ((wrap64 (16 * t111)) + t112)) % 256)] (fun _ => True) (fun _ => False) rfl rfl ?aP (fun _ hk => hk.elim) ?aF ?aO ?aB ?aS ?aL ?_; (case aP => exact rfl); (case aB => exact (by repeat (first | (with_reducible first | exact HB.out | apply below_alloc | apply pw_below_drewN | apply below_drew1) | exact HB.out))); (case aF => exact (fun _ _ => trivial)); (case aO => exact (by (with_reducible repeat (first | apply Kd.R_alloc | apply Kd.R_drewN | apply Kd.R_drew)); exact HO_4.out)); (case aS => exact (below_size (by repeat (first | (with_reducible first | exact HB.out | apply below_alloc | apply pw_below_drewN | apply below_drew1) | exact HB.out)))); (case aL => have := LMc14.out; omega); intro v114 w15 ho hb hg hat; rw [← Ny113.out] at ho; have n0_ := Aside0.mk (hb); have n1_ := Aside0.mk (ho); clear HB; clear HO_4; have HB := n0_; have HO115 := n1_; clear n0_ n1_; clear ho hb hg hat))
                      repeat (go_quiet (first | (go_at_call 39; (with_reducible refine (garretref02_digit.calls k1 (bt a0 x5_1) t111 _ A6.out).mono ?_); rintro e w' ⟨rfl, ⟨nd, rfl⟩⟩; (try first | exact ⟨rfl, _, World.drewN_drewN _ _ _⟩ | exact ⟨rfl, _, Eq.trans (World.drewN_drewN _ _ _) (congrArg (World.drewN _) (Nat.add_assoc _ _ _))⟩); have p10 : 0 ≤ ((ji7) : Int) := of_decide_eq_true (by first | (with_reducible assumption) | assumption); have q10 : (ji7) < (a0.size : Int) := of_decide_eq_true (by first | (with_reducible assumption) | assumption); have hx10 := bt_at a0 (ji7); replace p10 := eq_true p10; replace q10 := eq_true q10) | (go_at_call 39; (with_reducible refine (garretref02_digit.calls k1 (bt a0 (ji7)) t112 _ A11.out).mono ?_); rintro e w' ⟨rfl, ⟨nd, rfl⟩⟩; (try first | exact ⟨rfl, _, World.drewN_drewN _ _ _⟩ | exact ⟨rfl, _, Eq.trans (World.drewN_drewN _ _ _) (congrArg (World.drewN _) (Nat.add_assoc _ _ _))⟩)) | ((with_reducible refine gate_builtin (b := .append) (xs := #[.tmp 33, .tmp 39]) rfl ?_); at_builtin; refine Kd.R_append (Kd.int .u8) (w0 := w) w.heap.size rfl (.tmp 33) (.tmp 39) 42 5 (.int .u8 0) 1 rfl Tryd.underlying42 info5 rfl (by decide) (by omega) u4 x4_1 ((wrap64 ((wrap64 (16 * t111)) + t112)) % 256) [.int .u8 ((wrap64 ((wrap64 (16 * t111)) + t112)) % 256)] (fun _ => True) (fun _ => False) rfl rfl ?aP (fun _ hk => hk.elim) ?aF ?aO ?aB ?aS ?aL ?_; (case aP => exact rfl); (case aB => exact (by repeat (first | (with_reducible first | exact HB.out | apply below_alloc | apply pw_below_drewN | apply below_drew1) | exact HB.out))); (case aF => exact (fun _ _ => trivial)); (case aO => exact (by (with_reducible repeat (first | apply Kd.R_alloc | apply Kd.R_drewN | apply Kd.R_drew)); exact HO_4.out)); (case aS => exact (below_size (by repeat (first | (with_reducible first | exact HB.out | apply below_alloc | apply pw_below_drewN | apply below_drew1) | exact HB.out)))); (case aL => have := LMc14.out; omega); intro v114 w15 ho hb hg hat; rw [← Ny113.out] at ho; have n0_ := Aside0.mk (hb); have n1_ := Aside0.mk (ho); clear HB; clear HO_4; have HB := n0_; have HO115 := n1_; clear n0_ n1_; clear ho hb hg hat)); try go_wp2_with (first | (go_at_call 39; (with_reducible refine (garretref02_digit.calls k1 (bt a0 x5_1) t111 _ A6.out).mono ?_); rintro e w' ⟨rfl, ⟨nd, rfl⟩⟩; (try first | exact ⟨rfl, _, World.drewN_drewN _ _ _⟩ | exact ⟨rfl, _, Eq.trans (World.drewN_drewN _ _ _) (congrArg (World.drewN _) (Nat.add_assoc _ _ _))⟩); have p10 : 0 ≤ ((ji7) : Int) := of_decide_eq_true (by first | (with_reducible assumption) | assumption); have q10 : (ji7) < (a0.size : Int) := of_decide_eq_true (by first | (with_reducible assumption) | assumption); have hx10 := bt_at a0 (ji7); replace p10 := eq_true p10; replace q10 := eq_true q10) | (go_at_call 39; (with_reducible refine (garretref02_digit.calls k1 (bt a0 (ji7)) t112 _ A11.out).mono ?_); rintro e w' ⟨rfl, ⟨nd, rfl⟩⟩; (try first | exact ⟨rfl, _, World.drewN_drewN _ _ _⟩ | exact ⟨rfl, _, Eq.trans (World.drewN_drewN _ _ _) (congrArg (World.drewN _) (Nat.add_assoc _ _ _))⟩)) | ((with_reducible refine gate_builtin (b := .append) (xs := #[.tmp 33, .tmp 39]) rfl ?_); at_builtin; refine Kd.R_append (Kd.int .u8) (w0 := w) w.heap.size rfl (.tmp 33) (.tmp 39) 42 5 (.int .u8 0) 1 rfl Tryd.underlying42 info5 rfl (by decide) (by omega) u4 x4_1 ((wrap64 ((wrap64 (16 * t111)) + t112)) % 256) [.int .u8 ((wrap64 ((wrap64 (16 * t111)) + t112)) % 256)] (fun _ => True) (fun _ => False) rfl rfl ?aP (fun _ hk => hk.elim) ?aF ?aO ?aB ?aS ?aL ?_; (case aP => exact rfl); (case aB => exact (by repeat (first | (with_reducible first | exact HB.out | apply below_alloc | apply pw_below_drewN | apply below_drew1) | exact HB.out))); (case aF => exact (fun _ _ => trivial)); (case aO => exact (by (with_reducible repeat (first | apply Kd.R_alloc | apply Kd.R_drewN | apply Kd.R_drew)); exact HO_4.out)); (case aS => exact (below_size (by repeat (first | (with_reducible first | exact HB.out | apply below_alloc | apply pw_below_drewN | apply below_drew1) | exact HB.out)))); (case aL => have := LMc14.out; omega); intro v114 w15 ho hb hg hat; rw [← Ny113.out] at ho; have n0_ := Aside0.mk (hb); have n1_ := Aside0.mk (ho); clear HB; clear HO_4; have HB := n0_; have HO115 := n1_; clear n0_ n1_; clear ho hb hg hat)))
                      go_roundg k1
                      case measure => have := HK1.out; omega
                      case rel => exact ⟨(y113), (wrap64 (x5_1 + 2)), (by first | rfl | (simp; done) | (simp [*]; done) | (simp; exact (by decide : ∀ p q : Bool, (p == q) = (!(p != q))) _ _) | (simp; exact (by decide : ∀ p q : Bool, (!(p != q)) = (p == q)) _ _)), H', ⟨by have := HK1.out; omega⟩, ⟨by (with_reducible repeat (first | apply Kd.R_alloc | apply Kd.R_drewN | apply Kd.R_drew)); exact HO115.out⟩, ⟨by repeat (first | (with_reducible first | exact HB.out | apply below_alloc | apply pw_below_drewN | apply below_drew1) | exact HB.out)⟩⟩
                    · rw [if_neg c14] at H
                      exact absurd H (by simp)
              · rw [if_neg c9] at H
                exact absurd H (by simp)
            · rw [if_neg c8] at H
              exact absurd H (by simp)
          · rw [if_neg c4] at H
            exact absurd H (by simp)
        · rw [if_neg c3] at H
          have c3b0 : decide (x5_1 < (a0.size : Int)) = false := decide_eq_false c3
          clear c3
          simp only [Option.some.injEq, Prod.mk.injEq] at H
          obtain ⟨rfl, rfl⟩ := H
          have hcv16 := own_string (P := Tryd.prog) Tryd.underlying42 Tryd.underlying5 Tryd.underlying9 (Kd.own_of_R HO_4.out)
          go_wp2
          repeat (go_quiet (fail); try go_wp2)
          go_ret2
          exact ⟨by first | rfl | (simp [errW_none, errW_some] <;> rfl) | (simp [*, errW_none, errW_some] <;> rfl), by repeat (first | (with_reducible first | exact HB.out | apply below_alloc | apply pw_below_drewN | apply below_drew1) | exact HB.out)⟩
  · rw [if_neg c2] at H
    have c2b0 : (((a0.size : Int) % 2) == 0) = false := beq_eq_false_iff_ne.mpr c2
    have c2b1 : (((a0.size : Int) % 2) != 0) = true := bne_iff_ne.mpr c2
    simp only [Option.some.injEq, Prod.mk.injEq] at H
    obtain ⟨rfl, rfl⟩ := H
    go_enter Tryd.func24, Tryd.ntmps24
    go_wp2
    repeat (go_quiet (fail); try go_wp2)
    go_ret2
    exact ⟨by first | rfl | (simp [errW_none, errW_some] <;> rfl) | (simp [*, errW_none, errW_some] <;> rfl), by repeat (first | (with_reducible first | exact HB.out | apply below_alloc | apply pw_below_drewN | apply below_drew1) | exact HB.out)⟩

end Go.Proofs.YtdfhffhnioamhaaDoor.QShaD
