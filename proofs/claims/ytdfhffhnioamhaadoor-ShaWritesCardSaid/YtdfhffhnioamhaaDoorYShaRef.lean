/- The document's constants, turns and numbers of four bytes: walked. -/
import Derived.Test.YtdfhffhnioamhaaDoorYShaTake
import Derived.Deep.RegionHeld3
import Derived.Deep.QuietTactic
namespace Go.Proofs.YtdfhffhnioamhaaDoor.Sha
open Go Go.RowKit Go.Proofs.YtdfhffhnioamhaaDoorW.PrintWords Go.Proofs.YtdfhffhnioamhaaDoorW.PrintLast Go.Proofs.YtdfhffhnioamhaaDoorW.PrintMore
set_option linter.unusedVariables false
set_option linter.unusedSimpArgs false

/-- A turn to the right, as the document says it. -/
def RTurns (n : Nat) : Prop := ∀ (x : W32) (w : World), Calls Tryd.prog 48 #[.int .u32 (x.toNat : Int), .int .i64 (n : Int)] w fun e w' => e = .returned (.int .u32 ((rr x n).toNat : Int)) ∧ ∃ m, w' = w.drewN m
theorem rturns (n : Nat) (h0 : 0 < n) (h1 : n < 32) : RTurns n := by
  intro x w
  have p2 : (0 : Int) ≤ (n : Int) := by omega
  have e2 : wrap64 (32 - (n : Int)) = ((32 - n : Nat) : Int) := by unfold wrap64; omega
  have p1 : (0 : Int) ≤ ((32 - n : Nat) : Int) := by omega
  have hr : Go.bits .or .u32 ((x.toNat : Int) / 2 ^ min ((n : Int)).toNat 32) ((x.toNat : Int) * 2 ^ min (((32 - n : Nat) : Int)).toNat 32 % 4294967296) = ((rr x n).toNat : Int) := by
    rw [show min (((32 - n : Nat) : Int)).toNat 32 = 32 - n by omega, show min ((n : Int)).toNat 32 = n by omega, m_shl, n_shr, n_or, rr]
  generalize hR : rr x n = R at *
  generalize ha : ((32 - n : Nat) : Int) = a at *
  generalize hb : (n : Int) = b at *
  have HR := Aside0.mk hr
  clear hR ha hb hr
  go_enter Tryd.func48, Tryd.ntmps48
  go_wp2_with fail
  go_quiet (fail)
  go_wp2
  go_ret
  exact ⟨by rw [← HR.out]; rfl, _, rfl⟩

/-- The number that bytes are. -/
def num (l : List UInt8) : Nat := l.foldl (fun n b => n * 256 + b.toNat) 0
theorem num_snoc (l : List UInt8) (b : UInt8) : num (l ++ [b]) = num l * 256 + b.toNat := by simp [num]
theorem num_lt : ∀ (k : Nat) (l : List UInt8), l.length = k → num l < 256 ^ k := by
  intro k
  induction k with
  | zero => intro l h; obtain rfl := List.eq_nil_of_length_eq_zero h; decide
  | succ k ih =>
    intro l h
    obtain ⟨m, b, rfl⟩ : ∃ m b, l = m ++ [b] := ⟨l.dropLast, l.getLast (by intro e; rw [e] at h; cases h), (List.dropLast_concat_getLast _).symm⟩
    rw [num_snoc]
    have := ih m (by simpa using h)
    have := b.toNat_lt
    rw [Nat.pow_succ]
    omega
theorem str_at (s : ByteArray) (i : Nat) (hi : i < s.data.toList.length) (W : World) : (Instr.index 9 (.string s) (.int .i64 (i : Int))).run Tryd.prog W = .ok (.int .u8 (((s.data.toList.getD i 0).toNat : Nat) : Int)) W := by
  have hz : i < s.size := by rw [← data_length]; exact hi
  rw [run_index_string W 9 s .i64 (i : Int) Tryd.underlying9, dif_pos ⟨by omega, by omega⟩]
  congr 3
  rw [List.getD_eq_getElem?_getD, List.getElem?_eq_getElem hi]
  rfl
theorem wr_nat (n : Nat) (h : n < 9223372036854775808) : wrap64 (n : Int) = (n : Int) := by unfold wrap64; omega
theorem num_told (s : ByteArray) (n : Nat) (hn : s.size = n) (h4 : n ≤ 4) (w : World) : Calls Tryd.prog 52 #[.string s] w fun e w' => e = .returned (.int .i64 (num s.data.toList : Int)) ∧ w' = w := by
  have HN := Aside0.mk h4
  have HL : Aside0 (s.data.toList.length = n) := ⟨(data_length s).trans hn⟩
  go_enter Tryd.func52, Tryd.ntmps52
  go_wp2
  go_loopw [3, 4] (fun v3 v4 w' => ∃ i : Nat, i ≤ n ∧ v4 = .int .i64 (i : Int) ∧ v3 = .int .i64 (num (s.data.toList.take i) : Int) ∧ w' = w) (fun _ v4 _ => n - (intOf v4).toNat)
  case atStart => exact ⟨0, Nat.zero_le _, rfl, rfl, rfl⟩
  case round =>
    obtain ⟨i, hi, rfl, rfl, rfl⟩ := hrel
    by_cases hlt : i < n
    · have d1 : decide ((i : Int) < (n : Int)) = true := decide_eq_true (by omega)
      have hl : i < s.data.toList.length := by rw [HL.out]; exact hlt
      have p0 : (0 : Int) ≤ (i : Int) := by omega
      have p1 : (i : Int) < (n : Int) := by omega
      have ht : s.data.toList.take (i + 1) = s.data.toList.take i ++ [s.data.toList.getD i 0] := by
        rw [List.take_succ_eq_append_getElem hl, List.getD_eq_getElem?_getD, List.getElem?_eq_getElem hl]; rfl
      have hb := (s.data.toList.getD i 0).toNat_lt
      have hq := num_lt i (s.data.toList.take i) (by rw [List.length_take, HL.out]; omega)
      have hq2 : num (s.data.toList.take i) < 16777216 := Nat.lt_of_lt_of_le hq (by
        have : 256 ^ i ≤ 256 ^ 3 := Nat.pow_le_pow_right (by decide) (by omega)
        exact this)
      have hN := num_snoc (s.data.toList.take i) (s.data.toList.getD i 0)
      rw [← ht] at hN
      have hx : (Instr.index 9 (.string s) (.int .i64 (i : Int))).run Tryd.prog wr = .ok (.int .u8 (((s.data.toList.getD i 0).toNat : Nat) : Int)) wr := str_at s i hl wr
      generalize s.data.toList.getD i 0 = b at *
      generalize num (s.data.toList.take i) = q at *
      generalize hE : num (s.data.toList.take (i + 1)) = q2 at *
      have HE := Aside0.mk hE
      clear hE
      have hlt1 : q * 256 < 9223372036854775808 := by omega
      have hlt2 : q2 < 9223372036854775808 := by omega
      have hlt3 : i + 1 < 9223372036854775808 := by have := HN.out; omega
      have HI := Aside0.mk (show i + 1 ≤ n by omega)
      have c1 : (q : Int) * 256 = ((q * 256 : Nat) : Int) := by omega
      have c2 : ((q * 256 : Nat) : Int) + ((b.toNat : Nat) : Int) = (q2 : Int) := by omega
      have Y0 := Aside0.mk (show wrap64 ((b.toNat : Nat) : Int) = ((b.toNat : Nat) : Int) from wr_nat _ (by omega))
      have Y1 := Aside0.mk (show wrap64 ((q : Int) * 256) = ((q * 256 : Nat) : Int) by rw [c1]; exact wr_nat _ hlt1)
      have Y2 := Aside0.mk (show wrap64 (((q * 256 : Nat) : Int) + ((b.toNat : Nat) : Int)) = (q2 : Int) by rw [c2]; exact wr_nat _ hlt2)
      clear hlt1 hlt2 hlt3 c1 c2
      clear hq hq2 hN ht hb hl hlt hi
      go_wp2
      rw [Y1.out, Y0.out, Y2.out]
      refine ⟨?_, by simp [intOf]; have := HI.out; omega⟩
      exact ⟨i + 1, HI.out, rfl, by rw [HE.out], trivial⟩
    · obtain rfl : i = n := by omega
      have d1 : decide ((i : Int) < (i : Int)) = false := decide_eq_false (by omega)
      have hall : s.data.toList.take i = s.data.toList := List.take_of_length_le (by rw [HL.out]; exact Nat.le_refl _)
      rw [hall]
      go_wp2
      go_ret
      exact ⟨rfl, rfl⟩
theorem rturn2 (x : W32) (w : World) : Calls Tryd.prog 48 #[.int .u32 (x.toNat : Int), .int .i64 2] w fun e w' => e = .returned (.int .u32 ((rr x 2).toNat : Int)) ∧ ∃ m, w' = w.drewN m := rturns 2 (by decide) (by decide) x w
theorem rturn6 (x : W32) (w : World) : Calls Tryd.prog 48 #[.int .u32 (x.toNat : Int), .int .i64 6] w fun e w' => e = .returned (.int .u32 ((rr x 6).toNat : Int)) ∧ ∃ m, w' = w.drewN m := rturns 6 (by decide) (by decide) x w
theorem rturn7 (x : W32) (w : World) : Calls Tryd.prog 48 #[.int .u32 (x.toNat : Int), .int .i64 7] w fun e w' => e = .returned (.int .u32 ((rr x 7).toNat : Int)) ∧ ∃ m, w' = w.drewN m := rturns 7 (by decide) (by decide) x w
theorem rturn11 (x : W32) (w : World) : Calls Tryd.prog 48 #[.int .u32 (x.toNat : Int), .int .i64 11] w fun e w' => e = .returned (.int .u32 ((rr x 11).toNat : Int)) ∧ ∃ m, w' = w.drewN m := rturns 11 (by decide) (by decide) x w
theorem rturn13 (x : W32) (w : World) : Calls Tryd.prog 48 #[.int .u32 (x.toNat : Int), .int .i64 13] w fun e w' => e = .returned (.int .u32 ((rr x 13).toNat : Int)) ∧ ∃ m, w' = w.drewN m := rturns 13 (by decide) (by decide) x w
theorem rturn17 (x : W32) (w : World) : Calls Tryd.prog 48 #[.int .u32 (x.toNat : Int), .int .i64 17] w fun e w' => e = .returned (.int .u32 ((rr x 17).toNat : Int)) ∧ ∃ m, w' = w.drewN m := rturns 17 (by decide) (by decide) x w
theorem rturn18 (x : W32) (w : World) : Calls Tryd.prog 48 #[.int .u32 (x.toNat : Int), .int .i64 18] w fun e w' => e = .returned (.int .u32 ((rr x 18).toNat : Int)) ∧ ∃ m, w' = w.drewN m := rturns 18 (by decide) (by decide) x w
theorem rturn19 (x : W32) (w : World) : Calls Tryd.prog 48 #[.int .u32 (x.toNat : Int), .int .i64 19] w fun e w' => e = .returned (.int .u32 ((rr x 19).toNat : Int)) ∧ ∃ m, w' = w.drewN m := rturns 19 (by decide) (by decide) x w
theorem rturn22 (x : W32) (w : World) : Calls Tryd.prog 48 #[.int .u32 (x.toNat : Int), .int .i64 22] w fun e w' => e = .returned (.int .u32 ((rr x 22).toNat : Int)) ∧ ∃ m, w' = w.drewN m := rturns 22 (by decide) (by decide) x w
theorem rturn25 (x : W32) (w : World) : Calls Tryd.prog 48 #[.int .u32 (x.toNat : Int), .int .i64 25] w fun e w' => e = .returned (.int .u32 ((rr x 25).toNat : Int)) ∧ ∃ m, w' = w.drewN m := rturns 25 (by decide) (by decide) x w
theorem or4 (a b c d : Nat) (ha : a < 256) (hb : b < 256) (hc : c < 256) (hd : d < 256) : ((BitVec.ofNat 32 a <<< 24) ||| (BitVec.ofNat 32 b <<< 16) ||| (BitVec.ofNat 32 c <<< 8) ||| BitVec.ofNat 32 d).toNat = ((a * 256 + b) * 256 + c) * 256 + d := by
  have e1 : c <<< 8 ||| d = c * 256 + d := by rw [← Nat.shiftLeft_add_eq_or_of_lt (show d < 2 ^ 8 by omega) c, Nat.shiftLeft_eq]
  have e2 : b <<< 16 ||| (c * 256 + d) = b * 65536 + (c * 256 + d) := by rw [← Nat.shiftLeft_add_eq_or_of_lt (show c * 256 + d < 2 ^ 16 by omega) b, Nat.shiftLeft_eq]
  have e3 : a <<< 24 ||| (b * 65536 + (c * 256 + d)) = a * 16777216 + (b * 65536 + (c * 256 + d)) := by rw [← Nat.shiftLeft_add_eq_or_of_lt (show b * 65536 + (c * 256 + d) < 2 ^ 24 by omega) a, Nat.shiftLeft_eq]
  simp only [BitVec.toNat_or, BitVec.toNat_shiftLeft, BitVec.toNat_ofNat]
  rw [Nat.mod_eq_of_lt (show a < 2 ^ 32 by omega), Nat.mod_eq_of_lt (show b < 2 ^ 32 by omega), Nat.mod_eq_of_lt (show c < 2 ^ 32 by omega), Nat.mod_eq_of_lt (show d < 2 ^ 32 by omega)]
  rw [Nat.mod_eq_of_lt (show a <<< 24 < 2 ^ 32 by rw [Nat.shiftLeft_eq]; omega), Nat.mod_eq_of_lt (show b <<< 16 < 2 ^ 32 by rw [Nat.shiftLeft_eq]; omega), Nat.mod_eq_of_lt (show c <<< 8 < 2 ^ 32 by rw [Nat.shiftLeft_eq]; omega)]
  rw [Nat.or_assoc, Nat.or_assoc, e1, e2, e3]
  omega
theorem w4_num (l : List UInt8) (i : Nat) (h : 4 * i + 4 ≤ l.length) : num ((l.drop (4 * i)).take 4) = (w4 l i).toNat := by
  have hd : (l.drop (4 * i)).take 4 = [l.getD (4 * i) 0, l.getD (4 * i + 1) 0, l.getD (4 * i + 2) 0, l.getD (4 * i + 3) 0] := by
    rw [List.drop_eq_getElem_cons (show 4 * i < l.length by omega), List.drop_eq_getElem_cons (show 4 * i + 1 < l.length by omega), List.drop_eq_getElem_cons (show 4 * i + 1 + 1 < l.length by omega), List.drop_eq_getElem_cons (show 4 * i + 1 + 1 + 1 < l.length by omega)]
    simp only [List.take_succ_cons, List.take_zero, List.getD_eq_getElem?_getD, List.getElem?_eq_getElem (show 4 * i < l.length by omega), List.getElem?_eq_getElem (show 4 * i + 1 < l.length by omega), List.getElem?_eq_getElem (show 4 * i + 2 < l.length by omega), List.getElem?_eq_getElem (show 4 * i + 3 < l.length by omega), Option.getD_some]
  rw [hd]
  have h0 := (l.getD (4 * i) 0).toNat_lt
  have h1 := (l.getD (4 * i + 1) 0).toNat_lt
  have h2 := (l.getD (4 * i + 2) 0).toNat_lt
  have h3 := (l.getD (4 * i + 3) 0).toNat_lt
  unfold w4 by8
  rw [or4 _ _ _ _ (by omega) (by omega) (by omega) (by omega)]
  simp [num]
end Go.Proofs.YtdfhffhnioamhaaDoor.Sha
