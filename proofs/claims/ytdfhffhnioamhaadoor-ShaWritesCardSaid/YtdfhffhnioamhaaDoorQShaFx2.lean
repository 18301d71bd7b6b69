-- Written for this claim by a program of this session.
import Derived.Test.YtdfhffhnioamhaaDoorQShaFx0
import Derived.Test.YtdfhffhnioamhaaDoorQShaFx1
namespace Go.Proofs.YtdfhffhnioamhaaDoor.QShaF
open Go.RowKit Go.Proofs.YtdfhffhnioamhaaDoorW.PrintWords Go.Proofs.YtdfhffhnioamhaaDoorW.PrintLast Go.Proofs.YtdfhffhnioamhaaDoorW.PrintMore
attribute [local go_sem] max2_int min2_int max_two min_two max_three min_three max_four min_four   -- for this text's walks alone
set_option linter.unusedVariables false
set_option linter.unusedSimpArgs false

/-! ### garretbook_SameTexts: function 35 -/
def garretbook_SameTexts.l0 : Nat → List ByteArray → List ByteArray → Int → Option (Bool)
  | 0, _, _, _ => none
  | k + 1, x0, x1, x5 => if x5 < (x0.length : Int) then (if 0 ≤ x5 then (if x5 < (x1.length : Int) then (if (rdOf ByteArray.empty x0 x5).toList = (rdOf ByteArray.empty x1 x5).toList then (garretbook_SameTexts.l0 k x0 x1 (wrap64 (x5 + 1))) else (some false)) else (none)) else (none)) else (some true)
def garretbook_SameTexts.f (k : Nat) (l0 : List ByteArray) (l1 : List ByteArray) : Option (Bool) := if (l0.length : Int) = (l1.length : Int) then (garretbook_SameTexts.l0 k l0 l1 0) else (some false)
theorem garretbook_SameTexts.mono_l : ∀ k, (∀ y0 y1 y2, LeO (garretbook_SameTexts.l0 k y0 y1 y2) (garretbook_SameTexts.l0 (k + 1) y0 y1 y2))
  | 0 => fun _ _ _ r h => by simp [garretbook_SameTexts.l0] at h
  | k + 1 => by
    have ih0 := garretbook_SameTexts.mono_l k
    · intro y0 y1 y2
      unfold garretbook_SameTexts.l0
      repeat' first
      | (with_reducible exact ih0 _ _ _)
      | (with_reducible exact LeO.refl _)
      | (with_reducible exact LeO.none _)
      | (with_reducible refine LeO.ite ?_ ?_)
      | (with_reducible refine LeO.bind ?_ (fun _ => ?_))
      | exact ih0 _ _ _
      | exact LeO.none _
      | refine LeO.ite ?_ ?_
      | refine LeO.bind ?_ (fun _ => ?_)
theorem garretbook_SameTexts.mono : ∀ a0 a1 k, LeO (garretbook_SameTexts.f k a0 a1) (garretbook_SameTexts.f (k + 1) a0 a1) := by
  intro a0 a1 k
  have ih0 := garretbook_SameTexts.mono_l k
  unfold garretbook_SameTexts.f
  repeat' first
      | (with_reducible exact ih0 _ _ _)
      | (with_reducible exact LeO.refl _)
      | (with_reducible exact LeO.none _)
      | (with_reducible refine LeO.ite ?_ ?_)
      | (with_reducible refine LeO.bind ?_ (fun _ => ?_))
      | exact ih0 _ _ _
      | exact LeO.none _
      | refine LeO.ite ?_ ?_
      | refine LeO.bind ?_ (fun _ => ?_)
set_option maxHeartbeats 8000000 in
set_option maxRecDepth 100000 in
theorem garretbook_SameTexts.calls (k : Nat) (A0 : Option Addr) (c0 : Nat) (l0 : List ByteArray) (A1 : Option Addr) (c1 : Nat) (l1 : List ByteArray) (r : Bool) (w : World) (hr0 : Kd.C Kd.string w A0 l0.length l0) (hc0 : l0.length ≤ c0) (hr1 : Kd.C Kd.string w A1 l1.length l1) (hc1 : l1.length ≤ c1) (h : garretbook_SameTexts.f k l0 l1 = some r) :
    Calls Tryd.prog 35 #[.slice A0 l0.length c0, .slice A1 l1.length c1] w fun e w' => e = .returned (.bool r) ∧ Drawn0 w w' := by
  have HR0 := Aside0.mk hr0
  have HC0 := Aside0.mk hc0
  clear hr0 hc0
  have HR1 := Aside0.mk hr1
  have HC1 := Aside0.mk hc1
  clear hr1 hc1
  have H : (if (l0.length : Int) = (l1.length : Int) then (garretbook_SameTexts.l0 k l0 l1 0) else (some false)) = some r := h
  clear h
  by_cases c3 : (l0.length : Int) = (l1.length : Int)
  · rw [if_pos c3] at H
    have c3b0 : ((l0.length : Int) == (l1.length : Int)) = true := beq_iff_eq.mpr c3
    have c3b1 : ((l0.length : Int) != (l1.length : Int)) = false := bne_eq_false_iff_eq.mpr c3
    have c3b2 : (l0.length == l1.length) = true := by first | simpa using c3 | (simp at c3 ⊢; omega)
    clear c3
    have H' := Aside0.mk H
    clear H
    go_enter Tryd.func35, Tryd.ntmps35
    go_wp2
    repeat (go_quiet (fail); try go_wp2)
    go_loopg [5] k (fun kq v5 w' => ∃ (x5_1 : Int), v5 = .int .i64 x5_1 ∧ Aside0 (garretbook_SameTexts.l0 kq l0 l1 x5_1 = some r) ∧ Aside0 (kq ≤ k) ∧ Drawn0 w w')
    case atStart => exact ⟨(0), (by first | rfl | (simp; done) | (simp [*]; done) | (simp; exact (by decide : ∀ p q : Bool, (p == q) = (!(p != q))) _ _) | (simp; exact (by decide : ∀ p q : Bool, (!(p != q)) = (p == q)) _ _)), H', ⟨Nat.le_refl _⟩, by repeat (first | exact Drawn0.refl _ | apply Drawn0.step)⟩
    case round =>
      clear H'
      try clear c1
      try clear p2
      try clear c3
      try clear c3b0
      try clear c3b1
      try clear c3b2
      obtain ⟨x5_1, rfl, HA, HK1, ⟨m1, rfl⟩⟩ := hrel
      cases gk with
      | zero => exact absurd HA.out (by simp [garretbook_SameTexts.l0])
      | succ k1 =>
        have H := HA.out
        clear HA
        simp only [garretbook_SameTexts.l0] at H
        by_cases c4 : x5_1 < (l0.length : Int)
        · rw [if_pos c4] at H
          have c4b0 : decide (x5_1 < (l0.length : Int)) = true := decide_eq_true c4
          clear c4
          by_cases c5 : 0 ≤ x5_1
          · rw [if_pos c5] at H
            have c5b0 : decide (0 ≤ x5_1) = true := decide_eq_true c5
            clear c5
            by_cases c6 : x5_1 < (l1.length : Int)
            · rw [if_pos c6] at H
              have c6b0 : decide (x5_1 < (l1.length : Int)) = true := decide_eq_true c6
              clear c6
              by_cases c7 : (rdOf ByteArray.empty l0 x5_1).toList = (rdOf ByteArray.empty l1 x5_1).toList
              · rw [if_pos c7] at H
                have c7b0 : ((rdOf ByteArray.empty l0 x5_1).toList == (rdOf ByteArray.empty l1 x5_1).toList) = true := beq_iff_eq.mpr c7
                have c7b1 : ((rdOf ByteArray.empty l0 x5_1).toList != (rdOf ByteArray.empty l1 x5_1).toList) = false := bne_eq_false_iff_eq.mpr c7
                clear c7
                have H' := Aside0.mk H
                clear H
                have p119 : 0 ≤ (x5_1 : Int) := of_decide_eq_true (by first | (with_reducible assumption) | assumption)
                have q119 : x5_1 < (l0.length : Int) := of_decide_eq_true (by first | (with_reducible assumption) | assumption)
                obtain ⟨ad119, e119, hx119_0⟩ := Kd.at_string HR0.out x5_1 p119 q119
                cases e119
                replace p119 := eq_true p119
                replace q119 := eq_true q119
                have p120 : 0 ≤ (x5_1 : Int) := of_decide_eq_true (by first | (with_reducible assumption) | assumption)
                have q120 : x5_1 < (l1.length : Int) := of_decide_eq_true (by first | (with_reducible assumption) | assumption)
                obtain ⟨ad120, e120, hx120_0⟩ := Kd.at_string HR1.out x5_1 p120 q120
                cases e120
                replace p120 := eq_true p120
                replace q120 := eq_true q120
                go_wp2
                repeat (go_quiet (fail); try go_wp2)
                go_roundg k1
                case measure => have := HK1.out; omega
                case rel => exact ⟨(wrap64 (x5_1 + 1)), (by first | rfl | (simp; done) | (simp [*]; done) | (simp; exact (by decide : ∀ p q : Bool, (p == q) = (!(p != q))) _ _) | (simp; exact (by decide : ∀ p q : Bool, (!(p != q)) = (p == q)) _ _)), H', ⟨by have := HK1.out; omega⟩, by repeat (first | exact Drawn0.refl _ | apply Drawn0.step)⟩
              · rw [if_neg c7] at H
                have c7b0 : ((rdOf ByteArray.empty l0 x5_1).toList == (rdOf ByteArray.empty l1 x5_1).toList) = false := beq_eq_false_iff_ne.mpr c7
                have c7b1 : ((rdOf ByteArray.empty l0 x5_1).toList != (rdOf ByteArray.empty l1 x5_1).toList) = true := bne_iff_ne.mpr c7
                obtain rfl := Option.some.inj H
                have p119 : 0 ≤ (x5_1 : Int) := of_decide_eq_true (by first | (with_reducible assumption) | assumption)
                have q119 : x5_1 < (l0.length : Int) := of_decide_eq_true (by first | (with_reducible assumption) | assumption)
                obtain ⟨ad119, e119, hx119_0⟩ := Kd.at_string HR0.out x5_1 p119 q119
                cases e119
                replace p119 := eq_true p119
                replace q119 := eq_true q119
                have p120 : 0 ≤ (x5_1 : Int) := of_decide_eq_true (by first | (with_reducible assumption) | assumption)
                have q120 : x5_1 < (l1.length : Int) := of_decide_eq_true (by first | (with_reducible assumption) | assumption)
                obtain ⟨ad120, e120, hx120_0⟩ := Kd.at_string HR1.out x5_1 p120 q120
                cases e120
                replace p120 := eq_true p120
                replace q120 := eq_true q120
                go_wp2
                repeat (go_quiet (fail); try go_wp2)
                go_ret
                exact ⟨by first | rfl | (simp; done) | (simp [*]; done) | (simp; exact (by decide : ∀ p q : Bool, (p == q) = (!(p != q))) _ _) | (simp; exact (by decide : ∀ p q : Bool, (!(p != q)) = (p == q)) _ _), by repeat (first | exact Drawn0.refl _ | apply Drawn0.step)⟩
            · rw [if_neg c6] at H
              exact absurd H (by simp)
          · rw [if_neg c5] at H
            exact absurd H (by simp)
        · rw [if_neg c4] at H
          have c4b0 : decide (x5_1 < (l0.length : Int)) = false := decide_eq_false c4
          clear c4
          obtain rfl := Option.some.inj H
          go_wp2
          repeat (go_quiet (fail); try go_wp2)
          go_ret
          exact ⟨by first | rfl | (simp; done) | (simp [*]; done) | (simp; exact (by decide : ∀ p q : Bool, (p == q) = (!(p != q))) _ _) | (simp; exact (by decide : ∀ p q : Bool, (!(p != q)) = (p == q)) _ _), by repeat (first | exact Drawn0.refl _ | apply Drawn0.step)⟩
  · rw [if_neg c3] at H
    have c3b0 : ((l0.length : Int) == (l1.length : Int)) = false := beq_eq_false_iff_ne.mpr c3
    have c3b1 : ((l0.length : Int) != (l1.length : Int)) = true := bne_iff_ne.mpr c3
    have c3b2 : (l0.length == l1.length) = false := by first | simpa using c3 | (simp at c3 ⊢; omega)
    obtain rfl := Option.some.inj H
    go_enter Tryd.func35, Tryd.ntmps35
    go_wp2
    repeat (go_quiet (fail); try go_wp2)
    go_ret
    exact ⟨by first | rfl | (simp; done) | (simp [*]; done) | (simp; exact (by decide : ∀ p q : Bool, (p == q) = (!(p != q))) _ _) | (simp; exact (by decide : ∀ p q : Bool, (!(p != q)) = (p == q)) _ _), by repeat (first | exact Drawn0.refl _ | apply Drawn0.step)⟩

/-! ### garretlaw02_ShaWrites: function 3, by hand -/
def garretlaw02_ShaWrites.f (l0 : List ByteArray) : Option Bool := if garretlaw02_works.f = some true then some true else none
theorem garretlaw02_ShaWrites.cat_list (a b : ByteArray) : (a ++ b).data.toList = a.data.toList ++ b.data.toList := by simp
theorem garretlaw02_ShaWrites.cat_snoc (l : List ByteArray) (y : ByteArray) : sha_Sum.cat (l ++ [y]) = sha_Sum.cat l ++ y.data.toList := by simp [sha_Sum.cat]
theorem garretlaw02_ShaWrites.same_l0 (l : List ByteArray) (hl : l.length < 4611686018427387904) : ∀ (m i k : Nat), i + m = l.length → m < k → garretbook_SameTexts.l0 k l l (i : Int) = some true := by
  intro m
  induction m with
  | zero =>
    intro i k hi hk
    obtain ⟨k, rfl⟩ : ∃ q, k = q + 1 := ⟨k - 1, by omega⟩
    simp only [garretbook_SameTexts.l0]
    rw [if_neg (by omega)]
  | succ m ih =>
    intro i k hi hk
    obtain ⟨k, rfl⟩ : ∃ q, k = q + 1 := ⟨k - 1, by omega⟩
    have hw : wrap64 ((i : Int) + 1) = ((i + 1 : Nat) : Int) := by unfold wrap64; omega
    simp only [garretbook_SameTexts.l0]
    rw [if_pos (by omega), if_pos (by omega), if_pos (by omega), if_pos trivial, hw]
    exact ih (i + 1) k (by omega) (by omega)
theorem garretlaw02_ShaWrites.same_refl (l : List ByteArray) (hl : l.length < 4611686018427387904) {k : Nat} (hk : l.length < k) : garretbook_SameTexts.f k l l = some true := by
  unfold garretbook_SameTexts.f
  rw [if_pos rfl]
  exact garretlaw02_ShaWrites.same_l0 l hl l.length 0 k (by omega) hk
theorem garretlaw02_ShaWrites.refsum_l0 (l : List ByteArray) (hl : l.length ≤ 1000000) (hz : (sha_Sum.cat l).length ≤ 1000000) : ∀ (m i k : Nat) (x : ByteArray), i + m = l.length → m < k → x.data.toList = sha_Sum.cat (l.take i) → garretref02_Sum.l0 k l x (i : Int) = some ⟨(Sha.digest (sha_Sum.cat l)).toArray⟩ := by
  intro m
  induction m with
  | zero =>
    intro i k x hi hk hx
    obtain ⟨k, rfl⟩ : ∃ q, k = q + 1 := ⟨k - 1, by omega⟩
    simp only [garretref02_Sum.l0]
    rw [if_neg (by omega)]
    rw [List.take_of_length_le (by omega)] at hx
    unfold garretref02_Digest.f
    rw [if_pos (by rw [← data_length, hx]; exact hz), hx]
    rfl
  | succ m ih =>
    intro i k x hi hk hx
    obtain ⟨k, rfl⟩ : ∃ q, k = q + 1 := ⟨k - 1, by omega⟩
    have hw : wrap64 ((i : Int) + 1) = ((i + 1 : Nat) : Int) := by unfold wrap64; omega
    have hrd : rdOf ByteArray.empty l (i : Int) = l.getD i ByteArray.empty := by unfold rdOf; rw [show ((i : Nat) : Int).toNat = i by omega]
    have ht := sha_Sum.cat_take l i (by omega)
    have hle := sha_Sum.cat_le l (i + 1)
    rw [ht, ← hx, List.length_append, data_length, data_length] at hle
    simp only [garretref02_Sum.l0]
    rw [if_pos (by omega), if_pos (by omega), hrd, if_pos (by omega), hw]
    exact ih (i + 1) k _ (by omega) (by omega) (by rw [garretlaw02_ShaWrites.cat_list, hx, ht])
theorem garretlaw02_ShaWrites.refsum_told (l : List ByteArray) (hl : l.length ≤ 1000000) (hz : (sha_Sum.cat l).length ≤ 1000000) : garretref02_Sum.f (l.length + 1) l = some ⟨(Sha.digest (sha_Sum.cat l)).toArray⟩ := by
  unfold garretref02_Sum.f
  exact garretlaw02_ShaWrites.refsum_l0 l hl hz l.length 0 _ ⟨#[]⟩ (by omega) (by omega) rfl
theorem garretlaw02_ShaWrites.reads_front {w : World} {A : Option Addr} {P : List ByteArray} {y : ByteArray} (h : ReadsOf Value.string (⟨#[]⟩ : ByteArray) w A (P.length + 1) (P ++ [y])) : ReadsOf Value.string (⟨#[]⟩ : ByteArray) w A P.length P := by
  refine ⟨rfl, by have := h.2.1; omega, fun hp => ?_⟩
  obtain ⟨ad, e, hc⟩ := h.2.2 (by omega)
  refine ⟨ad, e, fun j hj => ?_⟩
  rw [hc j (by omega), List.getD_eq_getElem?_getD, List.getElem?_append_left hj, ← List.getD_eq_getElem?_getD]
theorem garretlaw02_ShaWrites.as_C {w : World} {A : Option Addr} {n : Nat} {P : List ByteArray} (h : ReadsOf Value.string (⟨#[]⟩ : ByteArray) w A n P) : Kd.C Kd.string w A n P := Kd.C_of_reads (enc := Value.string) (d := (⟨#[]⟩ : ByteArray)) (h1 := fun _ => rfl) h
theorem garretlaw02_ShaWrites.front_C {w : World} {A : Option Addr} {P : List ByteArray} {y : ByteArray} (h : ReadsOf Value.string (⟨#[]⟩ : ByteArray) w A (P.length + 1) (P ++ [y])) : Kd.C Kd.string w A P.length P := garretlaw02_ShaWrites.as_C (garretlaw02_ShaWrites.reads_front h)
theorem garretlaw02_ShaWrites.len_calls (B g : Nat) (s : Sha.S8) (rest : List UInt8) (long : Nat) (rv : Value) (w : World) (h : Sha.HashAt B w g s rest long rv) :
    Calls Tryd.prog 15 #[.pointer (some ⟨g, 0, none⟩)] w fun e w' => e = .returned (.int .i64 (long : Int)) ∧ w' = w := by
  obtain ⟨hb, ho, hBg⟩ := h
  obtain ⟨hc0, hc1, hc2, hc3, hc4, hc5, hc6, hc7, hc8, hc9, hf0, hf1, hf2, hf3, hf4, hf5, hf6, hf7, hf8, hf9⟩ := blk_all10 hb
  clear hc0 hc1 hc2 hc3 hc4 hc5 hc6 hc7 hc8 hf0 hf1 hf2 hf3 hf4 hf5 hf6 hf7 hf8 hf9 ho hb
  go_enter Tryd.func15, Tryd.ntmps15
  go_wp2
  go_ret
  exact ⟨rfl, rfl⟩
def garretlaw02_ShaWrites.T (w5 w' : World) : Prop := Below w5.heap.size w5 w'
theorem garretlaw02_ShaWrites.T_step {w X Y : World} (hb : Below X.heap.size X Y) (h : garretlaw02_ShaWrites.T w X) : garretlaw02_ShaWrites.T w Y := below_step h hb
theorem garretlaw02_ShaWrites.T_out {w X : World} (h : garretlaw02_ShaWrites.T w X) : Below w.heap.size w X := h
theorem garretlaw02_ShaWrites.T_drew {w X : World} (h : garretlaw02_ShaWrites.T w X) : garretlaw02_ShaWrites.T w X.drew := below_drew1 h
theorem garretlaw02_ShaWrites.T_drewN {w X : World} (h : garretlaw02_ShaWrites.T w X) (n : Nat) : garretlaw02_ShaWrites.T w (X.drewN n) := pw_below_drewN h n
theorem garretlaw02_ShaWrites.sum_at (B g : Nat) (s : Sha.S8) (rest : List UInt8) (long : Nat) (rv : Value) (w5 X : World) (D : ByteArray) (hb : garretlaw02_ShaWrites.T w5 X) (hK : Sha.Consts w5) (h : Sha.HashAt B w5 g s rest long rv) (hlen : rest.length ≤ 1000000000000) (hlong : long ≤ 1000000000000000000) (hD : (⟨(Sha.fin s rest long).toArray⟩ : ByteArray) = D) :
    Calls Tryd.prog 13 #[.pointer (some ⟨g, 0, none⟩)] X fun e w' => e = .returned (.string D) ∧ Below X.heap.size X w' := by
  subst hD
  exact Sha.sum_calls B g s rest long rv X (hK.below hb) (h.below hb (Nat.le_refl _)) hlen hlong
theorem garretlaw02_ShaWrites.from_ {v : Value} {m k : Nat} (h : v.ownBlock = none ∨ ∃ b, v.ownBlock = some b ∧ m ≤ b) (hk : v.ownBlock = some k) : m ≤ k := by
  rcases h with h | ⟨b, h, hb⟩
  · rw [h] at hk; cases hk
  · rw [h] at hk
    have := Option.some.inj hk
    omega
set_option maxHeartbeats 4000000 in
set_option maxRecDepth 100000 in
theorem garretlaw02_ShaWrites.calls (A0 : Option Addr) (c0 : Nat) (l0 : List ByteArray) (r : Bool) (w : World) (hr0 : Kd.C Kd.string w A0 l0.length l0) (hc0 : l0.length ≤ c0) (hL : Laid w) (h : garretlaw02_ShaWrites.f l0 = some r) :
    Calls Tryd.prog 3 #[.slice A0 l0.length c0] w fun e w' => e = .returned (.bool r) ∧ Below w.heap.size w w' := by
  unfold garretlaw02_ShaWrites.f at h
  by_cases hq : garretlaw02_works.f = some true
  · rw [if_pos hq] at h
    obtain rfl := Option.some.inj h
    have HWK := Aside0.mk hq
    have HLAID := Aside0.mk hL
    have HK : Aside0 (Sha.Consts w) := ⟨hL⟩
    have HB0 := Aside0.mk (World.block_lt_of_cell? w _ (HK.out 0 (by decide)))
    have hmax := Kd.C_max hr0
    have HRD := Aside0.mk (Kd.reads_of_C (enc := Value.string) (d := (⟨#[]⟩ : ByteArray)) (h1 := fun _ => rfl) hr0)
    obtain ⟨n, hn⟩ : ∃ n, l0.length = n := ⟨_, rfl⟩
    rw [hn] at hmax HRD hc0 ⊢
    have HC := Aside0.mk hc0
    have HN := Aside0.mk hn
    have HMX := Aside0.mk hmax
    clear h hq hr0 hL hc0 hn hmax
    go_enter Tryd.func3, Tryd.ntmps3
    go_wp2_with (first
      | (go_at_call 9; (with_reducible refine (Sha.new_calls _).mono ?_); rintro e w1 ⟨⟨g, rfl, hh, hlt⟩, hb⟩; have HH := Aside0.mk hh; have HB := Aside0.mk hb; clear hh hb hlt)
      | (go_at_call 10; (with_reducible refine (garretlaw02_works.calls true _ (Laid.below HLAID.out HB.out) HWK.out).mono ?_); rintro e w2 ⟨rfl, hb⟩; have n0_ := Aside0.mk (below_step HB.out hb); have n1_ := Aside0.mk (HH.out.below hb (Nat.le_refl _)); clear HB HH hb; have HB := n0_; have HH := n1_; clear n0_ n1_))
    go_loopw [4, 5, 6] (fun v4 v5 v6 w' => ∃ (i : Nat) (al : ByteArray) (P : List ByteArray) (rv : Value) (A : Option Addr) (c : Nat), i ≤ n ∧ i ≤ 20 ∧ v6 = .int .i64 (i : Int) ∧ v4 = .string al ∧ v5 = .slice A P.length c ∧ Aside0 (sha_Sum.cat P = al.data.toList) ∧ Aside0 (al.size ≤ 200 * i) ∧ Aside0 (P.length ≤ i) ∧ Aside0 (Sha.HashAt w.heap.size w' g (Sha.eat Sha.init al.data.toList).1 (Sha.eat Sha.init al.data.toList).2 al.size rv) ∧ Aside0 (w'.ownsRow w.heap.size 9 1 (.slice A P.length c) P.length (encs Value.string P)) ∧ Aside0 (Below w.heap.size w w')) (fun _ _ v6 _ => n - (intOf v6).toNat)
    case atStart => exact ⟨0, ⟨#[]⟩, [], _, none, 0, Nat.zero_le _, Nat.zero_le _, rfl, rfl, rfl, ⟨rfl⟩, ⟨Nat.le_refl _⟩, ⟨Nat.le_refl _⟩, HH, ⟨own_nil _ _ _ _⟩, HB⟩
    case round =>
      clear HH HB
      obtain ⟨i, al, P, rv, A, c, hi, hi20, rfl, rfl, rfl, HCAT, HAL, HPI, HH, HO, HB⟩ := hrel
      by_cases hlt : i < n
      · have d2 : decide ((i : Int) < (n : Int)) = true := decide_eq_true (by omega)
        by_cases h20 : i < 20
        · have d3 : decide ((i : Int) < 20) = true := decide_eq_true (by omega)
          have p0 : (0 : Int) ≤ (i : Int) := by omega
          have p1 : (i : Int) < (n : Int) := by omega
          obtain ⟨ad, rfl, hcell⟩ := HRD.out.2.2 (by omega)
          have hx0 := hcell i hlt
          generalize l0.getD i ⟨#[]⟩ = y at *
          have hadl := World.block_lt_of_cell? w _ hx0
          have HCL : Aside0 (∀ W, Below w.heap.size w W → W.cell? (ad.add i) = some (.string y)) := ⟨fun W hb => (hb.cell hadl).trans hx0⟩
          have hx := HCL.out wr HB.out
          have HI := Aside0.mk (show i + 1 ≤ n by omega)
          have HI20 := Aside0.mk (show i + 1 ≤ 20 by omega)
          have QI := Aside0.mk (show wrap64 ((i : Int) + 1) = ((i + 1 : Nat) : Int) by unfold wrap64; omega)
          clear hcell hx0 hadl
          by_cases hy : (y.size : Int) > 200
          · have d4 : decide (200 < (y.size : Int)) = true := decide_eq_true hy
            clear hi hi20 hlt h20
            go_wp2
            try rw [QI.out]
            refine ⟨?_, by simp [intOf]; have := HI.out; omega⟩
            exact ⟨i + 1, al, P, rv, A, c, HI.out, HI20.out, rfl, rfl, rfl, HCAT, ⟨by have := HAL.out; omega⟩, ⟨by have := HPI.out; omega⟩, HH, HO, HB⟩
          · have d4 : decide (200 < (y.size : Int)) = false := decide_eq_false hy
            have HY := Aside0.mk (show y.size ≤ 200 by omega)
            have HAZ := Aside0.mk (show al.size ≤ 4000 by have := HAL.out; have := HI20.out; omega)
            have HLM := Aside0.mk (data_length al)
            have hr1 := Sha.eat_left _ Sha.init al.data.toList (Nat.le_refl _)
            have HR1 := Aside0.mk (show (Sha.eat Sha.init al.data.toList).2.length ≤ 64 by rw [hr1]; omega)
            have q1 : ¬ (9223372036854775807 < al.size + y.size) := by have := HAZ.out; have := HY.out; omega
            have HW1 := Aside0.mk (show (Sha.eat Sha.init al.data.toList).2.length + y.size ≤ 140737488355328 by have := HR1.out; have := HY.out; omega)
            have HW2 := Aside0.mk (show al.size + y.size ≤ 9223372036854775807 by have := HAZ.out; have := HY.out; omega)
            have HW3 := Aside0.mk (show (Sha.eat Sha.init al.data.toList).2.length + (⟨#[102, 111, 114, 107]⟩ : ByteArray).size ≤ 140737488355328 by have := HR1.out; show _ + 4 ≤ _; omega)
            have HW4 := Aside0.mk (show al.size + (⟨#[102, 111, 114, 107]⟩ : ByteArray).size ≤ 9223372036854775807 by have := HAZ.out; show _ + 4 ≤ _; omega)
            have HKR := Aside0.mk (HK.out.below HB.out)
            have HB0R := Aside0.mk (Nat.lt_of_lt_of_le HB0.out HB.out.size)
            have HGR := Aside0.mk (blk_lt HH.out.1)
            have HRV := Aside0.mk (Sha.row_lt HH.out.2.1)
            clear hi hi20 hlt h20 hy hr1
            go_upto_region 17 with (first
              | (go_at_call 11; (with_reducible refine (Sha.fork_calls w.heap.size g _ _ _ rv _ HH.out (Nat.le_trans HR1.out (by decide))).mono ?_); rintro e w2 ⟨⟨g2, rv2, rfl, hf, hlt2⟩, hb⟩; have HF2 := Aside0.mk hf; have HH2 := Aside0.mk (HH.out.below hb (Nat.le_refl _)); have HO2 := Aside0.mk (Sha.row_below HO.out hb); have HB2 := Aside0.mk (below_step HB.out hb); have HBR2 := Aside0.mk hb; have HRV2 := Aside0.mk (Sha.row_lt hf.2.1); have HNE := Aside0.mk (show g2 ≠ g by have := HGR.out; have := hf.2.2; omega); have hx2 := HCL.out w2 HB2.out; clear hf hlt2 hb HH HO hx)
              | (go_at_call 12; (with_reducible refine (Sha.write_calls w.heap.size g _ _ _ rv y _ (HK.out.below HB2.out) HH2.out HB0.out HB2.out.size HW1.out HW2.out).mono ?_); rintro e w3 ⟨rfl, ⟨rv3, hh3, hat3⟩, hb3, hk3⟩; have HH3 := Aside0.mk hh3; have HAT3 := Aside0.mk hat3; have HB3 := Aside0.mk (HB2.out.trans hb3); have HK3 := Aside0.mk hk3; have HS3 := Aside0.mk hk3.1; have hx3 := HCL.out w3 HB3.out; have HO3 := Aside0.mk (Sha.row_keep HO2.out hk3 (fun k hk => ⟨Sha.typed_ne' HO2.out HH2.out.1 (by decide) k hk, Sha.typed_ne HO2.out HH2.out.2.1 (by decide) k hk⟩)); have HF3 := Aside0.mk (Sha.hash_keep HF2.out hk3 HNE.out (fun e => Sha.typed_ne' HH2.out.2.1 HF2.out.1 (by decide) _ e rfl) (fun k hk => ⟨Sha.typed_ne' HF2.out.2.1 HH2.out.1 (by decide) k hk, fun e => by have := HRV.out k e; have := own_base HF2.out.2.1 k hk; omega⟩)); clear hh3 hat3 hb3 hk3 hx2 HH2 HO2 HF2 HK3)
              | ((with_reducible refine gate_dst (N := 54) rfl ?_); refine print_append_of Value.string (w0 := w) (W := w3) w.heap.size rfl _ _ 22 9 (.string ⟨#[]⟩) 16 rfl Tryd.underlying22 Lends.infoS rfl (by decide) (.slice A P.length c) P y rfl rfl rfl HO3.out HB3.out HB3.out.size (by have := HPI.out; have := HI20.out; omega) ?_; intro v5 w5 hown hb5 hgr5 hat5; have HH5 := Aside0.mk (Sha.hash_grown HH3.out hgr5 (fun e => Sha.typed_ne' HO3.out HH3.out.1 (by decide) _ e rfl) (fun k hk => Sha.typed_ne HH3.out.2.1 HO3.out (by decide) k hk)); have HF5 := Aside0.mk (Sha.hash_grown HF3.out hgr5 (fun e => Sha.typed_ne' HO3.out HF3.out.1 (by decide) _ e rfl) (fun k hk => Sha.typed_ne HF3.out.2.1 HO3.out (by decide) k hk)); have HB5 := Aside0.mk hb5; have HS5 := Aside0.mk (Nat.le_trans HBR2.out.size (Nat.le_trans HS3.out hgr5.size)); obtain ⟨A5, c5, rfl, hcc5, _⟩ := Lends.own_shapeS hown; have HO5 := Aside0.mk hown; clear hown hb5 hgr5 hat5 hcc5 HH3 HF3 HO3 hx3)
              | (go_at_call 12; (with_reducible refine (Sha.write_calls wr.heap.size g2 _ _ _ rv2 ⟨#[102, 111, 114, 107]⟩ _ (HK.out.below HB5.out) HF5.out HB0R.out HS5.out HW3.out HW4.out).mono ?_); rintro e w6 ⟨rfl, ⟨rv6, hf6, hat6⟩, hb6, hk6⟩; have HF6 := Aside0.mk hf6; have HH6 := Aside0.mk (Sha.hash_keep HH5.out hk6 (fun e => HNE.out e.symm) (fun e => Sha.typed_ne' HF5.out.2.1 HH5.out.1 (by decide) _ e rfl) (fun k hk => ⟨Sha.typed_ne' HH5.out.2.1 HF5.out.1 (by decide) k hk, fun e => by have h1 := HRV2.out k e; have h2 := garretlaw02_ShaWrites.from_ HAT3.out hk; omega⟩)); have HO6 := Aside0.mk (Sha.row_keep HO5.out hk6 (fun k hk => ⟨Sha.typed_ne' HO5.out HF5.out.1 (by decide) k hk, Sha.typed_ne HO5.out HF5.out.2.1 (by decide) k hk⟩)); have HB6 := Aside0.mk (HB5.out.trans (hb6.mono HB.out.size)); have hx6 := HCL.out w6 HB6.out; clear hf6 hat6 hb6 hk6 HH5 HF5 HO5))
            have HEA : Aside0 ((al ++ y).data.toList = al.data.toList ++ y.data.toList) := ⟨garretlaw02_ShaWrites.cat_list al y⟩
            have HEF : Aside0 ((al ++ (⟨#[102, 111, 114, 107]⟩ : ByteArray)).data.toList = al.data.toList ++ [102, 111, 114, 107]) := ⟨garretlaw02_ShaWrites.cat_list al _⟩
            have hs2 : (al ++ y).size = al.size + y.size := by rw [← data_length, HEA.out, List.length_append, data_length, data_length]
            have hsf : (al ++ (⟨#[102, 111, 114, 107]⟩ : ByteArray)).size = al.size + 4 := by rw [← data_length, HEF.out, List.length_append, data_length]; rfl
            have hh6 := HH6.out
            rw [← Sha.eat_pieces, ← HEA.out, ← hs2] at hh6
            have hf6 := HF6.out
            have hf4 : al.size + (⟨#[102, 111, 114, 107]⟩ : ByteArray).size = (al ++ (⟨#[102, 111, 114, 107]⟩ : ByteArray)).size := hsf.symm
            rw [← Sha.eat_pieces, ← HEF.out, hf4] at hf6
            have hsl : ∀ W, (Instr.slice 9 (.string (al ++ y)) none (some (.int .i64 (al.size : Int))) none).run Tryd.prog W = .ok (.string al) W := fun W => by
              have h := run_slice_string_h (P := Tryd.prog) W 9 (al ++ y) Tryd.underlying9 .i64 (al.size : Int) (by omega) (by omega)
              rw [show ((al.size : Nat) : Int).toNat = al.size by omega] at h
              rw [h]
              congr 2
              have e : ((al ++ y).extract 0 al.size).data.toList = al.data.toList := by
                rw [ByteArray.data_extract, Array.toList_extract, List.extract_eq_take_drop, HEA.out, List.drop_zero, Nat.sub_zero, ← HLM.out, List.take_left']
                rfl
              obtain ⟨⟨la⟩⟩ := al
              generalize (_ : ByteArray).extract 0 _ = z at *
              obtain ⟨⟨lz⟩⟩ := z
              exact congrArg (fun l => (⟨⟨l⟩⟩ : ByteArray)) e
            have q6 : ¬ (9223372036854775807 < al.size + 4) := by have := HAZ.out; omega
            have q7 : ¬ (9223372036854775807 < al.size + (⟨#[102, 111, 114, 107]⟩ : ByteArray).size) := q6
            have w80 : IntKind.i64.wrap (((al ++ y).size : Int) - (y.size : Int)) = (al.size : Int) := by rw [IntKind.wrap_i64]; have := HAZ.out; have := HY.out; omega
            have v80 : wrap64 (((al ++ y).size : Int) - (y.size : Int)) = (al.size : Int) := by unfold wrap64; have := HAZ.out; have := HY.out; omega
            have HZ2 := Aside0.mk (show (al ++ y).size ≤ 4200 by have := HAZ.out; have := HY.out; omega)
            have HZF := Aside0.mk (show (al ++ (⟨#[102, 111, 114, 107]⟩ : ByteArray)).size ≤ 4004 by have := HAZ.out; omega)
            have HCAT2 : Aside0 (sha_Sum.cat (P ++ [y]) = (al ++ y).data.toList) := ⟨by rw [garretlaw02_ShaWrites.cat_snoc, HCAT.out, HEA.out]⟩
            have HAL2 := Aside0.mk (show (al ++ y).size ≤ 200 * (i + 1) by have := HAL.out; have := HY.out; omega)
            have HPI2 := Aside0.mk (show (P ++ [y]).length ≤ i + 1 by rw [List.length_append]; have := HPI.out; simp; omega)
            clear hs2 hsf hf4 HH6 HF6 HEA HEF HCAT HAL HPI HLM
            have HB6' := HB6
            clear HB6
            generalize al ++ y = a2 at *
            generalize haf : al ++ (⟨#[102, 111, 114, 107]⟩ : ByteArray) = af at *
            obtain ⟨D1, hD1⟩ : ∃ D : ByteArray, D = ⟨(Sha.digest a2.data.toList).toArray⟩ := ⟨_, rfl⟩
            obtain ⟨D2, hD2⟩ : ∃ D : ByteArray, D = ⟨(Sha.digest af.data.toList).toArray⟩ := ⟨_, rfl⟩
            have HFN1 : Aside0 ((⟨(Sha.fin (Sha.eat Sha.init a2.data.toList).1 (Sha.eat Sha.init a2.data.toList).2 a2.size).toArray⟩ : ByteArray) = D1) := ⟨by rw [hD1, Sha.digest, data_length]⟩
            have HFN2 : Aside0 ((⟨(Sha.fin (Sha.eat Sha.init af.data.toList).1 (Sha.eat Sha.init af.data.toList).2 af.size).toArray⟩ : ByteArray) = D2) := ⟨by rw [hD2, Sha.digest, data_length]⟩
            have HDG1 : Aside0 (garretref02_Digest.f a2 = some D1) := ⟨by unfold garretref02_Digest.f; rw [if_pos (by have := HZ2.out; omega), hD1]⟩
            have HDG2 : Aside0 (garretref02_Digest.f af = some D2) := ⟨by unfold garretref02_Digest.f; rw [if_pos (by have := HZF.out; omega), hD2]⟩
            have HL1 := Aside0.mk (show (Sha.eat Sha.init a2.data.toList).2.length ≤ 1000000000000 by rw [Sha.eat_left _ _ _ (Nat.le_refl _)]; omega)
            have HL2 := Aside0.mk (show (Sha.eat Sha.init af.data.toList).2.length ≤ 1000000000000 by rw [Sha.eat_left _ _ _ (Nat.le_refl _)]; omega)
            have HM1 := Aside0.mk (show a2.size ≤ 1000000000000000000 by have := HZ2.out; omega)
            have HM2 := Aside0.mk (show af.size ≤ 1000000000000000000 by have := HZF.out; omega)
            have HH6 := Aside0.mk hh6
            have HF6 := Aside0.mk hf6
            have HKW := Aside0.mk (HK.out.below HB6'.out)
            have HCL6 : Aside0 (∀ W, garretlaw02_ShaWrites.T w6 W → W.cell? (ad.add i) = some (.string y)) := ⟨fun W hT => HCL.out W (below_step HB6'.out hT)⟩
            have hT : garretlaw02_ShaWrites.T w6 w6 := Below.refl _ _
            clear hD1 hD2 hh6 hf6 q1
            go_region_held3 (fun w' => garretlaw02_ShaWrites.T w6 w' ∧ w'.cell? (ad.add i) = some (.string y)) (first | assumption | (exact ⟨garretlaw02_ShaWrites.T_step (by assumption) (by (repeat (first | (with_reducible assumption) | (with_reducible exact And.left (b := World.cell? _ _ = some (.string y)) (by with_reducible assumption)) | (with_reducible refine garretlaw02_ShaWrites.T_drew ?_) | (with_reducible refine garretlaw02_ShaWrites.T_drewN ?_ _)))), HCL6.out _ (garretlaw02_ShaWrites.T_step (by assumption) (by (repeat (first | (with_reducible assumption) | (with_reducible exact And.left (b := World.cell? _ _ = some (.string y)) (by with_reducible assumption)) | (with_reducible refine garretlaw02_ShaWrites.T_drew ?_) | (with_reducible refine garretlaw02_ShaWrites.T_drewN ?_ _)))))⟩) | (exact ⟨(by (repeat (first | (with_reducible assumption) | (with_reducible exact And.left (b := World.cell? _ _ = some (.string y)) (by with_reducible assumption)) | (with_reducible refine garretlaw02_ShaWrites.T_drew ?_) | (with_reducible refine garretlaw02_ShaWrites.T_drewN ?_ _)))), HCL6.out _ (by (repeat (first | (with_reducible assumption) | (with_reducible exact And.left (b := World.cell? _ _ = some (.string y)) (by with_reducible assumption)) | (with_reducible refine garretlaw02_ShaWrites.T_drew ?_) | (with_reducible refine garretlaw02_ShaWrites.T_drewN ?_ _))))⟩))
              (first
                | (go_at_call 13; (with_reducible first | refine (garretlaw02_ShaWrites.sum_at w.heap.size g _ _ _ rv3 w6 _ D1 (show garretlaw02_ShaWrites.T w6 _ by (repeat (first | (with_reducible assumption) | (with_reducible exact And.left (b := World.cell? _ _ = some (.string y)) (by with_reducible assumption)) | (with_reducible refine garretlaw02_ShaWrites.T_drew ?_) | (with_reducible refine garretlaw02_ShaWrites.T_drewN ?_ _)))) HKW.out HH6.out HL1.out HM1.out HFN1.out).mono ?_ | refine (garretlaw02_ShaWrites.sum_at wr.heap.size g2 _ _ _ rv6 w6 _ D2 (show garretlaw02_ShaWrites.T w6 _ by (repeat (first | (with_reducible assumption) | (with_reducible exact And.left (b := World.cell? _ _ = some (.string y)) (by with_reducible assumption)) | (with_reducible refine garretlaw02_ShaWrites.T_drew ?_) | (with_reducible refine garretlaw02_ShaWrites.T_drewN ?_ _)))) HKW.out HF6.out HL2.out HM2.out HFN2.out).mono ?_); rintro e w7 ⟨rfl, hb⟩)
                | (go_at_call 14; (with_reducible first | refine (garretref02_Digest.calls a2 D1 _ HDG1.out).mono ?_ | refine (garretref02_Digest.calls af D2 _ HDG2.out).mono ?_); rintro e w7 ⟨rfl, hb⟩)
                | (go_at_call 15; (with_reducible refine (garretlaw02_ShaWrites.len_calls w.heap.size g _ _ a2.size rv3 _ (HH6.out.below (B2 := w6.heap.size) (garretlaw02_ShaWrites.T_out (show garretlaw02_ShaWrites.T w6 _ by (repeat (first | (with_reducible assumption) | (with_reducible exact And.left (b := World.cell? _ _ = some (.string y)) (by with_reducible assumption)) | (with_reducible refine garretlaw02_ShaWrites.T_drew ?_) | (with_reducible refine garretlaw02_ShaWrites.T_drewN ?_ _))))) (Nat.le_refl _))).mono ?_); rintro e w7 ⟨rfl, rfl⟩))
            all_goals go_wp2
            all_goals (try rw [QI.out])
            all_goals (refine ⟨?_, by simp [intOf]; have := HI.out; omega⟩)
            have hT7 : garretlaw02_ShaWrites.T w6 w7 := (by repeat (first | (with_reducible assumption) | (with_reducible exact And.left (b := World.cell? _ _ = some (.string y)) (by with_reducible assumption)) | (with_reducible refine garretlaw02_ShaWrites.T_drew ?_) | (with_reducible refine garretlaw02_ShaWrites.T_drewN ?_ _)))
            exact ⟨i + 1, a2, P ++ [y], rv3, A5, c5, HI.out, HI20.out, rfl, rfl, by rw [List.length_append]; rfl, HCAT2, HAL2, HPI2, ⟨HH6.out.below (garretlaw02_ShaWrites.T_out hT7) (Nat.le_refl _)⟩, ⟨Sha.row_below HO6.out (garretlaw02_ShaWrites.T_out hT7)⟩, ⟨below_step HB6'.out (garretlaw02_ShaWrites.T_out hT7)⟩⟩
        · have d3 : decide ((i : Int) < 20) = false := decide_eq_false (by omega)
          have hp20 : P.length ≤ 20 := by have := HPI.out; omega
          have hcz : (sha_Sum.cat P).length ≤ 4000 := by rw [HCAT.out, data_length]; have := HAL.out; omega
          have HRP := Aside0.mk (garretlaw02_ShaWrites.as_C (own_reads_of' (d := (⟨#[]⟩ : ByteArray)) HO.out))
          have hcp : P.length ≤ c := by obtain ⟨A', c', e, hcc, _⟩ := Lends.own_shapeS HO.out; injection e with _ _ e3; omega
          have HCP := Aside0.mk hcp
          obtain ⟨D, hD⟩ : ∃ D : ByteArray, D = ⟨(Sha.digest (sha_Sum.cat P)).toArray⟩ := ⟨_, rfl⟩
          have HSUM : Aside0 (sha_Sum.f P = some D) := ⟨by unfold sha_Sum.f; rw [if_pos (by omega), hD]⟩
          have HRS : Aside0 (garretref02_Sum.f (P.length + 1) P = some D) := ⟨by rw [garretlaw02_ShaWrites.refsum_told P (by omega) (by omega), hD]⟩
          have HSAME : Aside0 (garretbook_SameTexts.f (P.length + 1) P P = some true) := ⟨garretlaw02_ShaWrites.same_refl P (by omega) (by omega)⟩
          have HP20 := Aside0.mk hp20
          clear hp20 hcz hcp hD hi hi20 HO HH
          go_wp2_with (first
            | (go_at_call 16; (with_reducible refine (Lends.lend_calls A c P _ HRP.out HCP.out (Nat.le_trans HP20.out (by decide))).mono ?_); rintro e w2 ⟨⟨A2, c2, rfl, hc2, ho2⟩, hb⟩; have n0_ := Aside0.mk (below_step HB.out hb); have n1_ := Aside0.mk (Kd.C_below HRP.out hb); have HRD2 := Aside0.mk (own_reads_of' (d := (⟨#[]⟩ : ByteArray)) ho2); have HC2 := Aside0.mk hc2; clear HB HRP hb ho2 hc2; have HB := n0_; have HRP := n1_; clear n0_ n1_)
            | (go_at_call 17; (with_reducible refine (sha_Sum.calls A2 c2 P D _ (garretlaw02_ShaWrites.front_C HRD2.out) (Nat.le_trans (Nat.le_succ _) HC2.out) (Laid.below HLAID.out HB.out) HSUM.out).mono ?_); rintro e w3 ⟨rfl, hb⟩; have n0_ := Aside0.mk (below_step HB.out hb); have n1_ := Aside0.mk (Kd.C_below HRP.out hb); have n2_ := Aside0.mk (HRD2.out.below hb); clear HB HRP HRD2 hb; have HB := n0_; have HRP := n1_; have HRD2 := n2_; clear n0_ n1_ n2_)
            | (go_at_call 18; (with_reducible refine (garretref02_Sum.calls (P.length + 1) A c P D _ HRP.out HCP.out HRS.out).mono ?_); rintro e w4 ⟨rfl, hb⟩; have n0_ := Aside0.mk (below_step HB.out hb); have n1_ := Aside0.mk (Kd.C_below HRP.out hb); have n2_ := Aside0.mk (HRD2.out.below hb); clear HB HRP HRD2 hb; have HB := n0_; have HRP := n1_; have HRD2 := n2_; clear n0_ n1_ n2_)
            | (go_at_call 19; (with_reducible refine (Lends.kept_calls A2 c2 A c P _ P.length rfl HRD2.out HC2.out (Nat.le_trans HP20.out (by decide)) ((garretbook_SameTexts.calls (P.length + 1) A2 c2 P A c P true _ (garretlaw02_ShaWrites.front_C HRD2.out) (Nat.le_trans (Nat.le_succ _) HC2.out) HRP.out HCP.out HSAME.out).mono fun e w' h_ => ⟨h_.1, h_.2.below⟩)).mono ?_); rintro e w5 ⟨rfl, hb⟩; have HB5 := Aside0.mk (below_step HB.out hb); clear hb))
          all_goals go_ret
          all_goals exact ⟨rfl, HB5.out⟩
      · have d2 : decide ((i : Int) < (n : Int)) = false := decide_eq_false (by omega)
        have hp20 : P.length ≤ 20 := by have := HPI.out; omega
        have hcz : (sha_Sum.cat P).length ≤ 4000 := by rw [HCAT.out, data_length]; have := HAL.out; omega
        have HRP := Aside0.mk (garretlaw02_ShaWrites.as_C (own_reads_of' (d := (⟨#[]⟩ : ByteArray)) HO.out))
        have hcp : P.length ≤ c := by obtain ⟨A', c', e, hcc, _⟩ := Lends.own_shapeS HO.out; injection e with _ _ e3; omega
        have HCP := Aside0.mk hcp
        obtain ⟨D, hD⟩ : ∃ D : ByteArray, D = ⟨(Sha.digest (sha_Sum.cat P)).toArray⟩ := ⟨_, rfl⟩
        have HSUM : Aside0 (sha_Sum.f P = some D) := ⟨by unfold sha_Sum.f; rw [if_pos (by omega), hD]⟩
        have HRS : Aside0 (garretref02_Sum.f (P.length + 1) P = some D) := ⟨by rw [garretlaw02_ShaWrites.refsum_told P (by omega) (by omega), hD]⟩
        have HSAME : Aside0 (garretbook_SameTexts.f (P.length + 1) P P = some true) := ⟨garretlaw02_ShaWrites.same_refl P (by omega) (by omega)⟩
        have HP20 := Aside0.mk hp20
        clear hp20 hcz hcp hD hi hi20 HO HH
        go_wp2_with (first
          | (go_at_call 16; (with_reducible refine (Lends.lend_calls A c P _ HRP.out HCP.out (Nat.le_trans HP20.out (by decide))).mono ?_); rintro e w2 ⟨⟨A2, c2, rfl, hc2, ho2⟩, hb⟩; have n0_ := Aside0.mk (below_step HB.out hb); have n1_ := Aside0.mk (Kd.C_below HRP.out hb); have HRD2 := Aside0.mk (own_reads_of' (d := (⟨#[]⟩ : ByteArray)) ho2); have HC2 := Aside0.mk hc2; clear HB HRP hb ho2 hc2; have HB := n0_; have HRP := n1_; clear n0_ n1_)
          | (go_at_call 17; (with_reducible refine (sha_Sum.calls A2 c2 P D _ (garretlaw02_ShaWrites.front_C HRD2.out) (Nat.le_trans (Nat.le_succ _) HC2.out) (Laid.below HLAID.out HB.out) HSUM.out).mono ?_); rintro e w3 ⟨rfl, hb⟩; have n0_ := Aside0.mk (below_step HB.out hb); have n1_ := Aside0.mk (Kd.C_below HRP.out hb); have n2_ := Aside0.mk (HRD2.out.below hb); clear HB HRP HRD2 hb; have HB := n0_; have HRP := n1_; have HRD2 := n2_; clear n0_ n1_ n2_)
          | (go_at_call 18; (with_reducible refine (garretref02_Sum.calls (P.length + 1) A c P D _ HRP.out HCP.out HRS.out).mono ?_); rintro e w4 ⟨rfl, hb⟩; have n0_ := Aside0.mk (below_step HB.out hb); have n1_ := Aside0.mk (Kd.C_below HRP.out hb); have n2_ := Aside0.mk (HRD2.out.below hb); clear HB HRP HRD2 hb; have HB := n0_; have HRP := n1_; have HRD2 := n2_; clear n0_ n1_ n2_)
          | (go_at_call 19; (with_reducible refine (Lends.kept_calls A2 c2 A c P _ P.length rfl HRD2.out HC2.out (Nat.le_trans HP20.out (by decide)) ((garretbook_SameTexts.calls (P.length + 1) A2 c2 P A c P true _ (garretlaw02_ShaWrites.front_C HRD2.out) (Nat.le_trans (Nat.le_succ _) HC2.out) HRP.out HCP.out HSAME.out).mono fun e w' h_ => ⟨h_.1, h_.2.below⟩)).mono ?_); rintro e w5 ⟨rfl, hb⟩; have HB5 := Aside0.mk (below_step HB.out hb); clear hb))
        all_goals go_ret
        all_goals exact ⟨rfl, HB5.out⟩
  · rw [if_neg hq] at h
    cases h

def garretlaw02_ShaWrites.Pure : Prop := ∀ (l0 : List ByteArray), (l0.length ≤ maxLen ∧ l0.length * 16 ≤ 140737488351232 ∧ ∀ l0y ∈ l0, l0y.size ≤ 140737488351232) → garretlaw02_ShaWrites.f l0 = some true
theorem garretlaw02_ShaWrites.walk (P : garretlaw02_ShaWrites.Pure) (A0 : Option Addr) (c0 : Nat) (l0 : List ByteArray) (w : World) (hr0 : Kd.C Kd.string w A0 l0.length l0) (hc0 : l0.length ≤ c0) (hL : Laid w) (o0 : (l0.length ≤ maxLen ∧ l0.length * 16 ≤ 140737488351232 ∧ ∀ l0y ∈ l0, l0y.size ≤ 140737488351232)) :
    Calls Tryd.prog 3 #[.slice A0 l0.length c0] w fun e w' => e = .returned (.bool true) ∧ Below w.heap.size w w' := by
  have h := P l0 o0
  refine (garretlaw02_ShaWrites.calls A0 c0 l0 true w hr0 hc0 hL h).mono ?_
  rintro e w' ⟨rfl, hd⟩
  exact ⟨rfl, hd⟩
end Go.Proofs.YtdfhffhnioamhaaDoor.QShaF
