/- A date's text, cut and split and read: plain laws on lists of bytes. -/
import Derived.Lib.Split
import Derived.Lib.IndexMore
import Derived.Lib.Atoi
import Derived.Lib.ItoaNum
import Derived.Lib.SlTrimSet
namespace Go.Proofs.YtcmpjjbhhehanaaGreatDoor.Civ
open Go

theorem idx_at (c : UInt8) : ∀ (A R : List UInt8), (∀ x ∈ A, x ≠ c) → Lib.index (A ++ c :: R) [c] = A.length := by
  intro A
  induction A with
  | nil => intro R _; simp [Lib.index, List.isPrefixOf]
  | cons b A ih =>
    intro R h
    have hb : b ≠ c := h b (by simp)
    have hi := ih R (fun x hx => h x (by simp [hx]))
    have h0 : [c].isPrefixOf (b :: (A ++ c :: R)) = false := by simp [List.isPrefixOf]; exact fun e => hb e.symm
    rw [List.cons_append, Lib.index, h0, hi]
    have : ((A.length : Int) == -1) = false := by rw [beq_eq_false_iff_ne]; omega
    rw [this]; simp
theorem idx_none (c : UInt8) : ∀ (A : List UInt8), (∀ x ∈ A, x ≠ c) → Lib.index A [c] = -1 := by
  intro A
  induction A with
  | nil => intro _; rfl
  | cons b A ih =>
    intro h
    have hb : b ≠ c := h b (by simp)
    have hi := ih (fun x hx => h x (by simp [hx]))
    have h0 : [c].isPrefixOf (b :: A) = false := by simp [List.isPrefixOf]; exact fun e => hb e.symm
    rw [Lib.index, h0, hi]; rfl
theorem cut_at (c : UInt8) (A R : List UInt8) (h : ∀ x ∈ A, x ≠ c) : Lib.cut (A ++ c :: R) [c] = (A, R, true) := by
  unfold Lib.cut
  rw [idx_at c A R h, if_pos (by omega)]
  simp
theorem count_end (c : UInt8) (A : List UInt8) (h : ∀ x ∈ A, x ≠ c) : Lib.count A [c] = 0 := Lib.count_miss (idx_none c A h)
theorem count_more (c : UInt8) (A R : List UInt8) (h : ∀ x ∈ A, x ≠ c) : Lib.count (A ++ c :: R) [c] = 1 + Lib.count R [c] := by
  rw [Lib.count_hit (by simp) (idx_at c A R h)]
  simp
theorem split3 (c : UInt8) (A B C : List UInt8) (hA : ∀ x ∈ A, x ≠ c) (hB : ∀ x ∈ B, x ≠ c) (hC : ∀ x ∈ C, x ≠ c) :
    Lib.countB ⟨(A ++ c :: (B ++ c :: C)).toArray⟩ ⟨#[c]⟩ = 2 ∧ Lib.splitB ⟨#[c]⟩ 0 2 ⟨(A ++ c :: (B ++ c :: C)).toArray⟩ = [⟨A.toArray⟩, ⟨B.toArray⟩, ⟨C.toArray⟩] := by
  refine ⟨?_, ?_⟩
  · show Lib.count (A ++ c :: (B ++ c :: C)) [c] = 2
    rw [count_more c A _ hA, count_more c B _ hB, count_end c C hC]
  · have hd := Lib.splitB_data ⟨#[c]⟩ 0 2 ⟨(A ++ c :: (B ++ c :: C)).toArray⟩
    have hk : Lib.splitK [c] 0 2 (A ++ c :: (B ++ c :: C)) = [A, B, C] := by
      have n1 : ((A.length : Int) == -1) = false := by rw [beq_eq_false_iff_ne]; omega
      have n2 : ((B.length : Int) == -1) = false := by rw [beq_eq_false_iff_ne]; omega
      rw [Lib.splitK, idx_at c A _ hA, n1]
      simp only [Bool.false_eq_true, if_false, Int.toNat_natCast, Nat.add_zero, List.length_singleton]
      rw [List.take_left, show A ++ c :: (B ++ c :: C) = (A ++ [c]) ++ (B ++ c :: C) by simp, List.drop_left' (by simp)]
      rw [Lib.splitK, idx_at c B _ hB, n2]
      simp only [Bool.false_eq_true, if_false, Int.toNat_natCast, Nat.add_zero, List.length_singleton]
      rw [List.take_left, show B ++ c :: C = (B ++ [c]) ++ C by simp, List.drop_left' (by simp)]
      rfl
    replace hd : (Lib.splitB ⟨#[c]⟩ 0 2 ⟨(A ++ c :: (B ++ c :: C)).toArray⟩).map (·.data.toList) = [A, B, C] := hd.trans hk
    generalize Lib.splitB ⟨#[c]⟩ 0 2 ⟨(A ++ c :: (B ++ c :: C)).toArray⟩ = L at hd ⊢
    have hL : L = (L.map (·.data.toList)).map (fun l => (⟨l.toArray⟩ : ByteArray)) := by rw [List.map_map]; exact (List.map_id'' (fun _ => rfl) L).symm
    rw [hL, hd]
    rfl

/-- A digit. -/
def Dig (x : UInt8) : Prop := 48 ≤ x.toNat ∧ x.toNat ≤ 57
theorem dec_dig : ∀ (k n : Nat), n ≤ k → ∀ x ∈ Lib.decDigits n, Dig x := by
  intro k
  induction k with
  | zero => intro n h x hx; obtain rfl : n = 0 := by omega
            rw [Lib.decDigits, dif_pos (by decide)] at hx; simp at hx; subst hx; exact ⟨by decide, by decide⟩
  | succ k ih =>
    intro n h x hx
    by_cases c : n < 10
    · rw [Lib.decDigits, dif_pos c] at hx
      simp only [List.mem_singleton] at hx
      subst hx
      unfold Dig
      rw [UInt8.toNat_ofNat']
      omega
    · rw [Lib.decDigits, dif_neg c] at hx
      rcases List.mem_append.1 hx with hx | hx
      · exact ih (n / 10) (by omega) x hx
      · simp only [List.mem_singleton] at hx
        subst hx
        unfold Dig
        rw [UInt8.toNat_ofNat']
        omega
theorem dec_len : ∀ (k n : Nat), n < 10 ^ (k + 1) → (Lib.decDigits n).length ≤ k + 1 ∧ 1 ≤ (Lib.decDigits n).length := by
  intro k
  induction k with
  | zero => intro n h; rw [Lib.decDigits, dif_pos (by simpa using h)]; simp
  | succ k ih =>
    intro n h
    by_cases c : n < 10
    · rw [Lib.decDigits, dif_pos c]; simp
    · have := ih (n / 10) (by rw [Nat.pow_succ] at h; omega)
      rw [Lib.decDigits, dif_neg c, List.length_append, List.length_singleton]
      omega
theorem decFrom_append : ∀ (l m : List UInt8) (acc : Nat), Lib.decFrom acc (l ++ m) = (Lib.decFrom acc l).bind fun a => Lib.decFrom a m := by
  intro l
  induction l with
  | nil => intro m acc; rfl
  | cons b l ih =>
    intro m acc
    simp only [List.cons_append, Lib.decFrom]
    cases Lib.digitVal b with
    | none => rfl
    | some d => exact ih m _
theorem decFrom_one (acc d : Nat) (h : d < 10) : Lib.decFrom acc [UInt8.ofNat (48 + d)] = some (acc * 10 + d) := by
  have h2 : (UInt8.ofNat (48 + d)).toNat = 48 + d := by rw [UInt8.toNat_ofNat']; omega
  simp only [Lib.decFrom, Lib.digitVal, h2]
  rw [if_pos (by omega)]
  simp
theorem decFrom_dec : ∀ (k n : Nat), n ≤ k → Lib.decFrom 0 (Lib.decDigits n) = some n := by
  intro k
  induction k with
  | zero => intro n h; obtain rfl : n = 0 := by omega
            rw [Lib.decDigits, dif_pos (by decide)]; exact decFrom_one 0 0 (by decide)
  | succ k ih =>
    intro n h
    by_cases c : n < 10
    · rw [Lib.decDigits, dif_pos c, decFrom_one 0 n c]; simp
    · rw [Lib.decDigits, dif_neg c, decFrom_append, ih (n / 10) (by omega)]
      show Lib.decFrom (n / 10) [UInt8.ofNat (48 + n % 10)] = _
      rw [decFrom_one _ _ (by omega)]
      congr 1
      omega
theorem decFrom_zeros : ∀ (z : Nat) (l : List UInt8), Lib.decFrom 0 (List.replicate z 48 ++ l) = Lib.decFrom 0 l := by
  intro z
  induction z with
  | zero => intro l; rfl
  | succ z ih => intro l; rw [List.replicate_succ, List.cons_append]; simp only [Lib.decFrom, Lib.digitVal]; exact ih l
/-- A number with zeros ahead: digits alone, which tell it. -/
def pad (n least : Nat) : List UInt8 := List.replicate (least - (Lib.decDigits n).length) 48 ++ Lib.decDigits n
theorem pad_dig (n least : Nat) : ∀ x ∈ pad n least, Dig x := by
  intro x hx
  rcases List.mem_append.1 hx with hx | hx
  · rw [List.mem_replicate] at hx
    rw [hx.2]; exact ⟨by decide, by decide⟩
  · exact dec_dig n n (Nat.le_refl _) x hx
theorem pad_len (n least k : Nat) (h : n < 10 ^ (k + 1)) (hl : least ≤ k + 1) : (pad n least).length ≤ k + 1 ∧ 1 ≤ (pad n least).length := by
  have := dec_len k n h
  unfold pad
  rw [List.length_append, List.length_replicate]
  omega
theorem pad_ne (n least : Nat) (c : UInt8) (h : c.toNat < 48 ∨ 57 < c.toNat) : ∀ x ∈ pad n least, x ≠ c := by
  intro x hx e
  have := pad_dig n least x hx
  unfold Dig at this
  rw [e] at this
  omega
theorem pad_atoi (n least : Nat) (h0 : 1 ≤ (pad n least).length) : Lib.atoi (pad n least) = some (n : Int) := by
  have hd : Lib.decNat (pad n least) = some n := by
    unfold Lib.decNat
    rw [if_neg (by intro e; rw [List.isEmpty_iff] at e; rw [e] at h0; simp at h0)]
    unfold pad
    rw [decFrom_zeros, decFrom_dec n n (Nat.le_refl _)]
  have hg := pad_dig n least
  generalize pad n least = l at hd hg h0
  cases l with
  | nil => simp at h0
  | cons b r =>
    have hb := hg b (by simp)
    unfold Dig at hb
    have e1 : (b == 45) = false := by rw [beq_eq_false_iff_ne]; intro e; rw [e] at hb; exact absurd hb.1 (by decide)
    have e2 : (b == 43) = false := by rw [beq_eq_false_iff_ne]; intro e; rw [e] at hb; exact absurd hb.1 (by decide)
    unfold Lib.atoi
    dsimp only
    rw [e1, e2, hd]
    rfl
theorem pad_trim (n least : Nat) : Lib.trimS (pad n least) [48, 49, 50, 51, 52, 53, 54, 55, 56, 57] = [] := by
  have h : ∀ x : UInt8, Dig x → [(48 : UInt8), 49, 50, 51, 52, 53, 54, 55, 56, 57].contains x = true := by
    intro x hx
    unfold Dig at hx
    have : x = UInt8.ofNat x.toNat := by simp
    rw [this]
    have hv : x.toNat = 48 ∨ x.toNat = 49 ∨ x.toNat = 50 ∨ x.toNat = 51 ∨ x.toNat = 52 ∨ x.toNat = 53 ∨ x.toNat = 54 ∨ x.toNat = 55 ∨ x.toNat = 56 ∨ x.toNat = 57 := by omega
    rcases hv with e | e | e | e | e | e | e | e | e | e <;> rw [e] <;> decide
  have hg := pad_dig n least
  unfold Lib.trimS Lib.trimRightS
  have hz : (pad n least).reverse.dropWhile ([(48 : UInt8), 49, 50, 51, 52, 53, 54, 55, 56, 57].contains ·) = [] := by
    have dw : ∀ l : List UInt8, (∀ x ∈ l, [(48 : UInt8), 49, 50, 51, 52, 53, 54, 55, 56, 57].contains x = true) → l.dropWhile ([(48 : UInt8), 49, 50, 51, 52, 53, 54, 55, 56, 57].contains ·) = [] := by
      intro l
      induction l with
      | nil => intro _; rfl
      | cons b l ih => intro hl; rw [List.dropWhile_cons, if_pos (hl b (by simp))]; exact ih (fun x hx => hl x (by simp [hx]))
    exact dw _ (fun x hx => h x (hg x (List.mem_reverse.1 hx)))
  rw [hz]
  rfl
end Go.Proofs.YtcmpjjbhhehanaaGreatDoor.Civ
