-- Written for this claim by a program of this session.
import Derived.Test.YtfihbohdhcidbaaDoorQSnpBx0
import Derived.Test.YtfihbohdhcidbaaDoorQSnpBx3
namespace Go.Proofs.YtfihbohdhcidbaaDoor.QSnpB
open Go.RowKit Go.Proofs.YtfihbohdhcidbaaDoorW.PrintWords Go.Proofs.YtfihbohdhcidbaaDoorW.PrintLast Go.Proofs.YtfihbohdhcidbaaDoorW.PrintMore
attribute [local go_sem] max2_int min2_int max_two min_two max_three min_three max_four min_four   -- for this text's walks alone
set_option linter.unusedVariables false
set_option linter.unusedSimpArgs false

/-! ### snap_rises_string: function 21, by hand -/
/-- The members from the last d on: each right, and behind the one ahead of it. -/
def snap_rises_string.go (R : ByteArray → Option Bool) (L : ByteArray → ByteArray → Option Bool) (l : List ByteArray) : Nat → Option Bool
  | 0 => some true
  | d + 1 => (R (l.getD (l.length - (d + 1)) ByteArray.empty)).bind fun b => if b = true then (if l.length - (d + 1) = 0 then snap_rises_string.go R L l d else (L (l.getD (l.length - (d + 1) - 1) ByteArray.empty) (l.getD (l.length - (d + 1)) ByteArray.empty)).bind fun c => if c = true then snap_rises_string.go R L l d else some false) else some false
def snap_rises_string.ris (R : ByteArray → Option Bool) (L : ByteArray → ByteArray → Option Bool) (l : List ByteArray) : Option Bool := if 64 < l.length then some false else snap_rises_string.go R L l l.length
theorem snap_rises_string.go_mono {R R' : ByteArray → Option Bool} {L L' : ByteArray → ByteArray → Option Bool} (hR : ∀ x, LeO (R x) (R' x)) (hL : ∀ x y, LeO (L x y) (L' x y)) (l : List ByteArray) : ∀ d, LeO (snap_rises_string.go R L l d) (snap_rises_string.go R' L' l d)
  | 0 => LeO.refl _
  | d + 1 => by
    have ih := snap_rises_string.go_mono hR hL l d
    unfold snap_rises_string.go
    refine LeO.bind (hR _) fun b => LeO.ite (LeO.ite ih (LeO.bind (hL _ _) fun c => LeO.ite ih (LeO.refl _))) (LeO.refl _)
def snap_rises_string.f (k : Nat) (l0 : List ByteArray) (g1 g2 : Nat) : Option Bool :=
  if g1 = 22 ∧ g2 = 23 then snap_rises_string.ris (fun x => snap_isPath.f k x) (fun x y => path_Less.f k x y) l0
  else if g1 = 24 ∧ g2 = 25 then snap_rises_string.ris (fun x => snap_isTag.f x) (fun x y => cmp_Less_string.f x y) l0 else none
theorem snap_rises_string.mono : ∀ a0 a1 a2 k, LeO (snap_rises_string.f k a0 a1 a2) (snap_rises_string.f (k + 1) a0 a1 a2) := by
  intro l g1 g2 k
  unfold snap_rises_string.f snap_rises_string.ris
  exact LeO.ite (LeO.ite (LeO.refl _) (snap_rises_string.go_mono (fun x => snap_isPath.mono _ _) (fun x y => path_Less.mono _ _ _) l _)) (LeO.ite (LeO.ite (LeO.refl _) (snap_rises_string.go_mono (fun x => LeO.refl _) (fun x y => LeO.refl _) l _)) (LeO.refl _))
theorem snap_rises_string.below_step2 {b : Nat} {w w1 w2 : World} (h : Below b w w1) (h2 : Below w1.heap.size w1 w2) (hb : b ≤ w.heap.size) : Below b w w2 := h.trans (h2.mono (Nat.le_trans hb h.size))
set_option maxHeartbeats 2000000 in
set_option maxRecDepth 100000 in
theorem snap_rises_string.calls_paths (k : Nat) (A0 : Option Addr) (c0 : Nat) (l0 : List ByteArray) (r : Bool) (w : World) (hr0 : Kd.C Kd.string w A0 l0.length l0) (hc0 : l0.length ≤ c0) (hL : Laid w) (h : snap_rises_string.ris (fun x => snap_isPath.f k x) (fun x y => path_Less.f k x y) l0 = some r) :
    Calls Tryd.prog 21 #[.slice A0 l0.length c0, .func (.func 22) #[] #[], .func (.func 23) #[] #[]] w fun e w' => e = .returned (.bool r) ∧ Below w.heap.size w w' := by
  unfold snap_rises_string.ris at h
  have HB0 := Aside0.mk (Below.refl w.heap.size w)
  by_cases hlen : 64 < l0.length
  · rw [if_pos hlen] at h
    obtain rfl := Option.some.inj h
    have d0 : decide ((64 : Int) < (l0.length : Int)) = true := decide_eq_true (by omega)
    have d1 : decide (64 < l0.length) = true := decide_eq_true hlen
    clear h hL hr0 hc0
    go_enter Tryd.func21, Tryd.ntmps21
    go_wp2
    go_ret
    exact ⟨rfl, by repeat (first | exact HB0.out | (with_reducible apply pw_below_drewN) | (with_reducible apply below_drew1))⟩
  · rw [if_neg hlen] at h
    have HN : Aside0 (∃ n, n = l0.length ∧ n ≤ 64) := ⟨⟨_, rfl, by omega⟩⟩
    obtain ⟨n, hn, hn64⟩ := HN.out
    have HNE := Aside0.mk hn
    have d0 : decide ((64 : Int) < (n : Int)) = false := decide_eq_false (by omega)
    have d1 : decide (64 < n) = false := decide_eq_false (by omega)
    have HH := Aside0.mk h
    have HRD := Aside0.mk hr0
    have HL := Aside0.mk hL
    have HN64 := Aside0.mk hn64
    clear h hL hr0 hc0 hlen HN hn64
    rw [← hn] at HH HRD ⊢
    clear hn
    go_enter Tryd.func21, Tryd.ntmps21
    go_wp2
    go_loopw [14] (fun v14 W => ∃ i : Nat, i ≤ n ∧ v14 = .int .i64 (i : Int) ∧ Aside0 (snap_rises_string.go (fun x => snap_isPath.f k x) (fun x y => path_Less.f k x y) l0 (n - i) = some r) ∧ Aside0 (Below w.heap.size w W)) (fun v14 _ => n - (intOf v14).toNat)
    case atStart => exact ⟨0, Nat.zero_le _, rfl, HH, ⟨by repeat (first | exact HB0.out | (with_reducible apply pw_below_drewN) | (with_reducible apply below_drew1))⟩⟩
    case round =>
      clear HH HB0
      obtain ⟨i, hi, rfl, HH, HB⟩ := hrel
      by_cases hlt : i < n
      · have b1 : decide ((i : Int) < (n : Int)) = true := decide_eq_true (by omega)
        have p0 : 0 ≤ (i : Int) := by omega
        have p1 : (i : Int) < (n : Int) := by omega
        have hq := HH.out
        have e1 : n - i = (n - i - 1) + 1 := by omega
        have e2 : l0.length - (n - i - 1 + 1) = i := by rw [← HNE.out]; omega
        rw [e1] at hq
        unfold snap_rises_string.go at hq
        rw [e2, show n - i - 1 = n - (i + 1) by omega] at hq
        replace hq := Option.bind_eq_some_iff.mp hq
        obtain ⟨b, hb, hq⟩ := hq
        try dsimp only at hb
        obtain ⟨ad, e3, hx⟩ := Kd.at_string (Kd.C_below HRD.out HB.out) (i : Int) p0 p1
        cases e3
        replace hx : wr.cell? (ad.add i) = some (.string (l0.getD i ByteArray.empty)) := hx
        have HRB := Aside0.mk hb
        have HQ := Aside0.mk hq
        have HI := Aside0.mk (show i + 1 ≤ n by omega)
        have QI := Aside0.mk (show wrap64 ((i : Int) + 1) = ((i + 1 : Nat) : Int) by have := HN64.out; unfold wrap64; omega)
        have HI0 := Aside0.mk hlt
        clear hb hq e1 e2 hlt hi
        generalize hx0 : l0.getD i ByteArray.empty = x at *
        have HX0 := Aside0.mk hx0
        clear hx0
        cases b with
        | false =>
          go_wp2_with (go_at_call 22; (with_reducible refine (snap_isPath.calls k x _ _ (Laid.below HL.out (by repeat (first | (with_reducible exact HB2.out) | (with_reducible exact HB.out) | (with_reducible apply pw_below_drewN) | (with_reducible apply below_drew1)))) HRB.out).mono ?_); rintro e w2 ⟨rfl, hb_⟩; have HB2 := Aside0.mk (snap_rises_string.below_step2 HB.out (show Below wr.heap.size wr w2 from hb_) (Nat.le_refl _)); clear hb_)
          go_ret
          have h4 := HQ.out; rw [if_neg (by decide)] at h4; obtain rfl := Option.some.inj h4; exact ⟨rfl, by repeat (first | exact HB2.out | (with_reducible apply pw_below_drewN) | (with_reducible apply below_drew1))⟩
        | true =>
          have hq := HQ.out
          rw [if_pos rfl] at hq
          by_cases h0 : i = 0
          · subst h0
            rw [if_pos rfl] at hq
            have HQ2 := Aside0.mk hq
            have hx2 : wr.cell? ad = some (.string x) := by simpa [Addr.add] using hx
            clear hq
            go_wp2_with (go_at_call 22; (with_reducible refine (snap_isPath.calls k x _ _ (Laid.below HL.out (by repeat (first | (with_reducible exact HB2.out) | (with_reducible exact HB.out) | (with_reducible apply pw_below_drewN) | (with_reducible apply below_drew1)))) HRB.out).mono ?_); rintro e w2 ⟨rfl, hb_⟩; have HB2 := Aside0.mk (snap_rises_string.below_step2 HB.out (show Below wr.heap.size wr w2 from hb_) (Nat.le_refl _)); clear hb_)
            exact ⟨⟨1, HI.out, rfl, HQ2, ⟨by repeat (first | exact HB2.out | (with_reducible apply pw_below_drewN) | (with_reducible apply below_drew1))⟩⟩, by simp [intOf]; have := HI.out; omega⟩
          · rw [if_neg h0] at hq
            replace hq := Option.bind_eq_some_iff.mp hq
            obtain ⟨c, hc, hq⟩ := hq
            try dsimp only at hc
            have g0 : decide ((0 : Int) < (i : Int)) = true := decide_eq_true (by omega)
            have y0 : (0 : Int) ≤ (i : Int) - 1 := by omega
            have y1 : (i : Int) - 1 < (n : Int) := by omega
            have y2 : ((i : Int) - 1).toNat = i - 1 := by omega
            have HY : Aside0 (∀ W, Below w.heap.size w W → W.cell? (ad.add (i - 1)) = some (.string (l0.getD (i - 1) ByteArray.empty))) := ⟨fun W hW => by
              obtain ⟨ad2, e4, hy⟩ := Kd.at_string (Kd.C_below HRD.out hW) ((i : Int) - 1) y0 y1
              cases e4
              rw [y2] at hy
              have : rdOf ByteArray.empty l0 ((i : Int) - 1) = l0.getD (i - 1) ByteArray.empty := by unfold rdOf; rw [y2]
              rw [this] at hy
              exact hy⟩
            have QW := Aside0.mk (show wrap64 ((i : Int) - 1) = (i : Int) - 1 by have := HN64.out; have := HI0.out; unfold wrap64; omega)
            have QW2 : IntKind.i64.wrap ((i : Int) - 1) = (i : Int) - 1 := IntWalk.i64_in _ (by have := HN64.out; have := HI0.out; omega)
            have HCB := Aside0.mk hc
            have HQ2 := Aside0.mk hq
            clear hc hq
            generalize l0.getD (i - 1) ByteArray.empty = y at *
            cases c with
            | false =>
              go_wp2_with (first
                | (go_at_call 22; (with_reducible refine (snap_isPath.calls k x _ _ (Laid.below HL.out (by repeat (first | (with_reducible exact HB2.out) | (with_reducible exact HB.out) | (with_reducible apply pw_below_drewN) | (with_reducible apply below_drew1)))) HRB.out).mono ?_); rintro e w2 ⟨rfl, hb_⟩; have HB2 := Aside0.mk (snap_rises_string.below_step2 HB.out (show Below wr.heap.size wr w2 from hb_) (Nat.le_refl _)); have hy2 := HY.out w2 HB2.out; clear hb_)
                | (go_at_call 23; (with_reducible refine (path_Less.calls k y x _ _ (Laid.below HL.out (by repeat (first | (with_reducible exact HB2.out) | (with_reducible exact HB.out) | (with_reducible apply pw_below_drewN) | (with_reducible apply below_drew1)))) HCB.out).mono ?_); rintro e w3 ⟨rfl, hb_⟩; have HB3 := Aside0.mk (snap_rises_string.below_step2 HB2.out (show Below w2.heap.size w2 w3 from hb_) (Nat.le_refl _)); clear hb_))
              go_ret
              have h4 := HQ2.out; rw [if_neg (by decide)] at h4; obtain rfl := Option.some.inj h4; exact ⟨rfl, by repeat (first | exact HB3.out | (with_reducible apply pw_below_drewN) | (with_reducible apply below_drew1))⟩
            | true =>
              have hq := HQ2.out
              rw [if_pos rfl] at hq
              have HQ3 := Aside0.mk hq
              clear hq
              go_wp2_with (first
                | (go_at_call 22; (with_reducible refine (snap_isPath.calls k x _ _ (Laid.below HL.out (by repeat (first | (with_reducible exact HB2.out) | (with_reducible exact HB.out) | (with_reducible apply pw_below_drewN) | (with_reducible apply below_drew1)))) HRB.out).mono ?_); rintro e w2 ⟨rfl, hb_⟩; have HB2 := Aside0.mk (snap_rises_string.below_step2 HB.out (show Below wr.heap.size wr w2 from hb_) (Nat.le_refl _)); have hy2 := HY.out w2 HB2.out; clear hb_)
                | (go_at_call 23; (with_reducible refine (path_Less.calls k y x _ _ (Laid.below HL.out (by repeat (first | (with_reducible exact HB2.out) | (with_reducible exact HB.out) | (with_reducible apply pw_below_drewN) | (with_reducible apply below_drew1)))) HCB.out).mono ?_); rintro e w3 ⟨rfl, hb_⟩; have HB3 := Aside0.mk (snap_rises_string.below_step2 HB2.out (show Below w2.heap.size w2 w3 from hb_) (Nat.le_refl _)); clear hb_))
              rw [QI.out]; exact ⟨⟨i + 1, HI.out, rfl, HQ3, ⟨by repeat (first | exact HB3.out | (with_reducible apply pw_below_drewN) | (with_reducible apply below_drew1))⟩⟩, by simp [intOf]; have := HI.out; omega⟩
      · obtain rfl : i = n := by omega
        have b1 : decide ((i : Int) < (i : Int)) = false := decide_eq_false (by omega)
        have hq := HH.out
        rw [Nat.sub_self] at hq
        obtain rfl := Option.some.inj hq
        clear hq hi hlt
        go_wp2
        go_ret
        exact ⟨rfl, by repeat (first | exact HB.out | (with_reducible apply pw_below_drewN) | (with_reducible apply below_drew1))⟩
set_option maxHeartbeats 2000000 in
set_option maxRecDepth 100000 in
theorem snap_rises_string.calls_tags (k : Nat) (A0 : Option Addr) (c0 : Nat) (l0 : List ByteArray) (r : Bool) (w : World) (hr0 : Kd.C Kd.string w A0 l0.length l0) (hc0 : l0.length ≤ c0) (hL : Laid w) (h : snap_rises_string.ris (fun x => snap_isTag.f x) (fun x y => cmp_Less_string.f x y) l0 = some r) :
    Calls Tryd.prog 21 #[.slice A0 l0.length c0, .func (.func 24) #[] #[], .func (.func 25) #[] #[]] w fun e w' => e = .returned (.bool r) ∧ Below w.heap.size w w' := by
  unfold snap_rises_string.ris at h
  have HB0 := Aside0.mk (Below.refl w.heap.size w)
  by_cases hlen : 64 < l0.length
  · rw [if_pos hlen] at h
    obtain rfl := Option.some.inj h
    have d0 : decide ((64 : Int) < (l0.length : Int)) = true := decide_eq_true (by omega)
    have d1 : decide (64 < l0.length) = true := decide_eq_true hlen
    clear h hL hr0 hc0
    go_enter Tryd.func21, Tryd.ntmps21
    go_wp2
    go_ret
    exact ⟨rfl, by repeat (first | exact HB0.out | (with_reducible apply pw_below_drewN) | (with_reducible apply below_drew1))⟩
  · rw [if_neg hlen] at h
    have HN : Aside0 (∃ n, n = l0.length ∧ n ≤ 64) := ⟨⟨_, rfl, by omega⟩⟩
    obtain ⟨n, hn, hn64⟩ := HN.out
    have HNE := Aside0.mk hn
    have d0 : decide ((64 : Int) < (n : Int)) = false := decide_eq_false (by omega)
    have d1 : decide (64 < n) = false := decide_eq_false (by omega)
    have HH := Aside0.mk h
    have HRD := Aside0.mk hr0
    have HL := Aside0.mk hL
    have HN64 := Aside0.mk hn64
    clear h hL hr0 hc0 hlen HN hn64
    rw [← hn] at HH HRD ⊢
    clear hn
    go_enter Tryd.func21, Tryd.ntmps21
    go_wp2
    go_loopw [14] (fun v14 W => ∃ i : Nat, i ≤ n ∧ v14 = .int .i64 (i : Int) ∧ Aside0 (snap_rises_string.go (fun x => snap_isTag.f x) (fun x y => cmp_Less_string.f x y) l0 (n - i) = some r) ∧ Aside0 (Below w.heap.size w W)) (fun v14 _ => n - (intOf v14).toNat)
    case atStart => exact ⟨0, Nat.zero_le _, rfl, HH, ⟨by repeat (first | exact HB0.out | (with_reducible apply pw_below_drewN) | (with_reducible apply below_drew1))⟩⟩
    case round =>
      clear HH HB0
      obtain ⟨i, hi, rfl, HH, HB⟩ := hrel
      by_cases hlt : i < n
      · have b1 : decide ((i : Int) < (n : Int)) = true := decide_eq_true (by omega)
        have p0 : 0 ≤ (i : Int) := by omega
        have p1 : (i : Int) < (n : Int) := by omega
        have hq := HH.out
        have e1 : n - i = (n - i - 1) + 1 := by omega
        have e2 : l0.length - (n - i - 1 + 1) = i := by rw [← HNE.out]; omega
        rw [e1] at hq
        unfold snap_rises_string.go at hq
        rw [e2, show n - i - 1 = n - (i + 1) by omega] at hq
        replace hq := Option.bind_eq_some_iff.mp hq
        obtain ⟨b, hb, hq⟩ := hq
        try dsimp only at hb
        obtain ⟨ad, e3, hx⟩ := Kd.at_string (Kd.C_below HRD.out HB.out) (i : Int) p0 p1
        cases e3
        replace hx : wr.cell? (ad.add i) = some (.string (l0.getD i ByteArray.empty)) := hx
        have HRB := Aside0.mk hb
        have HQ := Aside0.mk hq
        have HI := Aside0.mk (show i + 1 ≤ n by omega)
        have QI := Aside0.mk (show wrap64 ((i : Int) + 1) = ((i + 1 : Nat) : Int) by have := HN64.out; unfold wrap64; omega)
        have HI0 := Aside0.mk hlt
        clear hb hq e1 e2 hlt hi
        generalize hx0 : l0.getD i ByteArray.empty = x at *
        have HX0 := Aside0.mk hx0
        clear hx0
        cases b with
        | false =>
          go_wp2_with (go_at_call 24; (with_reducible refine (snap_isTag.calls x _ _ HRB.out).mono ?_); rintro e w2 ⟨rfl, hb_⟩; have HB2 := Aside0.mk (snap_rises_string.below_step2 HB.out (show Below wr.heap.size wr w2 from hb_) (Nat.le_refl _)); clear hb_)
          go_ret
          have h4 := HQ.out; rw [if_neg (by decide)] at h4; obtain rfl := Option.some.inj h4; exact ⟨rfl, by repeat (first | exact HB2.out | (with_reducible apply pw_below_drewN) | (with_reducible apply below_drew1))⟩
        | true =>
          have hq := HQ.out
          rw [if_pos rfl] at hq
          by_cases h0 : i = 0
          · subst h0
            rw [if_pos rfl] at hq
            have HQ2 := Aside0.mk hq
            have hx2 : wr.cell? ad = some (.string x) := by simpa [Addr.add] using hx
            clear hq
            go_wp2_with (go_at_call 24; (with_reducible refine (snap_isTag.calls x _ _ HRB.out).mono ?_); rintro e w2 ⟨rfl, hb_⟩; have HB2 := Aside0.mk (snap_rises_string.below_step2 HB.out (show Below wr.heap.size wr w2 from hb_) (Nat.le_refl _)); clear hb_)
            exact ⟨⟨1, HI.out, rfl, HQ2, ⟨by repeat (first | exact HB2.out | (with_reducible apply pw_below_drewN) | (with_reducible apply below_drew1))⟩⟩, by simp [intOf]; have := HI.out; omega⟩
          · rw [if_neg h0] at hq
            replace hq := Option.bind_eq_some_iff.mp hq
            obtain ⟨c, hc, hq⟩ := hq
            try dsimp only at hc
            have g0 : decide ((0 : Int) < (i : Int)) = true := decide_eq_true (by omega)
            have y0 : (0 : Int) ≤ (i : Int) - 1 := by omega
            have y1 : (i : Int) - 1 < (n : Int) := by omega
            have y2 : ((i : Int) - 1).toNat = i - 1 := by omega
            have HY : Aside0 (∀ W, Below w.heap.size w W → W.cell? (ad.add (i - 1)) = some (.string (l0.getD (i - 1) ByteArray.empty))) := ⟨fun W hW => by
              obtain ⟨ad2, e4, hy⟩ := Kd.at_string (Kd.C_below HRD.out hW) ((i : Int) - 1) y0 y1
              cases e4
              rw [y2] at hy
              have : rdOf ByteArray.empty l0 ((i : Int) - 1) = l0.getD (i - 1) ByteArray.empty := by unfold rdOf; rw [y2]
              rw [this] at hy
              exact hy⟩
            have QW := Aside0.mk (show wrap64 ((i : Int) - 1) = (i : Int) - 1 by have := HN64.out; have := HI0.out; unfold wrap64; omega)
            have QW2 : IntKind.i64.wrap ((i : Int) - 1) = (i : Int) - 1 := IntWalk.i64_in _ (by have := HN64.out; have := HI0.out; omega)
            have HCB := Aside0.mk hc
            have HQ2 := Aside0.mk hq
            clear hc hq
            generalize l0.getD (i - 1) ByteArray.empty = y at *
            cases c with
            | false =>
              go_wp2_with (first
                | (go_at_call 24; (with_reducible refine (snap_isTag.calls x _ _ HRB.out).mono ?_); rintro e w2 ⟨rfl, hb_⟩; have HB2 := Aside0.mk (snap_rises_string.below_step2 HB.out (show Below wr.heap.size wr w2 from hb_) (Nat.le_refl _)); have hy2 := HY.out w2 HB2.out; clear hb_)
                | (go_at_call 25; (with_reducible refine (cmp_Less_string.calls y x _ _ HCB.out).mono ?_); rintro e w3 ⟨rfl, hd_⟩; have hb_ := hd_.below; clear hd_; have HB3 := Aside0.mk (snap_rises_string.below_step2 HB2.out (show Below w2.heap.size w2 w3 from hb_) (Nat.le_refl _)); clear hb_))
              go_ret
              have h4 := HQ2.out; rw [if_neg (by decide)] at h4; obtain rfl := Option.some.inj h4; exact ⟨rfl, by repeat (first | exact HB3.out | (with_reducible apply pw_below_drewN) | (with_reducible apply below_drew1))⟩
            | true =>
              have hq := HQ2.out
              rw [if_pos rfl] at hq
              have HQ3 := Aside0.mk hq
              clear hq
              go_wp2_with (first
                | (go_at_call 24; (with_reducible refine (snap_isTag.calls x _ _ HRB.out).mono ?_); rintro e w2 ⟨rfl, hb_⟩; have HB2 := Aside0.mk (snap_rises_string.below_step2 HB.out (show Below wr.heap.size wr w2 from hb_) (Nat.le_refl _)); have hy2 := HY.out w2 HB2.out; clear hb_)
                | (go_at_call 25; (with_reducible refine (cmp_Less_string.calls y x _ _ HCB.out).mono ?_); rintro e w3 ⟨rfl, hd_⟩; have hb_ := hd_.below; clear hd_; have HB3 := Aside0.mk (snap_rises_string.below_step2 HB2.out (show Below w2.heap.size w2 w3 from hb_) (Nat.le_refl _)); clear hb_))
              rw [QI.out]; exact ⟨⟨i + 1, HI.out, rfl, HQ3, ⟨by repeat (first | exact HB3.out | (with_reducible apply pw_below_drewN) | (with_reducible apply below_drew1))⟩⟩, by simp [intOf]; have := HI.out; omega⟩
      · obtain rfl : i = n := by omega
        have b1 : decide ((i : Int) < (i : Int)) = false := decide_eq_false (by omega)
        have hq := HH.out
        rw [Nat.sub_self] at hq
        obtain rfl := Option.some.inj hq
        clear hq hi hlt
        go_wp2
        go_ret
        exact ⟨rfl, by repeat (first | exact HB.out | (with_reducible apply pw_below_drewN) | (with_reducible apply below_drew1))⟩
theorem snap_rises_string.calls (k : Nat) (A0 : Option Addr) (c0 : Nat) (l0 : List ByteArray) (g1 g2 : Nat) (r : Bool) (w : World) (hr0 : Kd.C Kd.string w A0 l0.length l0) (hc0 : l0.length ≤ c0) (hL : Laid w) (h : snap_rises_string.f k l0 g1 g2 = some r) :
    Calls Tryd.prog 21 #[.slice A0 l0.length c0, .func (.func g1) #[] #[], .func (.func g2) #[] #[]] w fun e w' => e = .returned (.bool r) ∧ Below w.heap.size w w' := by
  unfold snap_rises_string.f at h
  by_cases h1 : g1 = 22 ∧ g2 = 23
  · rw [if_pos h1] at h
    obtain ⟨rfl, rfl⟩ := h1
    exact snap_rises_string.calls_paths k A0 c0 l0 r w hr0 hc0 hL h
  · rw [if_neg h1] at h
    by_cases h2 : g1 = 24 ∧ g2 = 25
    · rw [if_pos h2] at h
      obtain ⟨rfl, rfl⟩ := h2
      exact snap_rises_string.calls_tags k A0 c0 l0 r w hr0 hc0 hL h
    · rw [if_neg h2] at h
      cases h

/-! ### sha_IsId: function 26 -/
def sha_IsId.f (a0 : ByteArray) : Option (Bool) := some ((a0.size : Int) == 32)
set_option maxHeartbeats 8000000 in
set_option maxRecDepth 100000 in
theorem sha_IsId.calls (a0 : ByteArray) (r : Bool) (w : World) (h : sha_IsId.f a0 = some r) :
    Calls Tryd.prog 26 #[.string a0] w fun e w' => e = .returned (.bool r) ∧ Drawn0 w w' := by
  have H : (some ((a0.size : Int) == 32)) = some r := h
  clear h
  obtain rfl := Option.some.inj H
  go_enter Tryd.func26, Tryd.ntmps26
  go_wp2
  go_ret
  exact ⟨by first | rfl | (simp; done) | (simp [*]; done) | (simp; exact (by decide : ∀ p q : Bool, (p == q) = (!(p != q))) _ _) | (simp; exact (by decide : ∀ p q : Bool, (!(p != q)) = (p == q)) _ _), by repeat (first | exact Drawn0.refl _ | apply Drawn0.step)⟩

/-! ### snap_Check: function 8 -/
mutual
def snap_Check.j0 : Nat → Bool → Int → ByteArray → List ByteArray → List ByteArray → ByteArray → ByteArray → Option (Int)
  | 0, _, _, _, _, _, _, _ => none
  | k + 1, x3, x155000, x155001, x155002, x155003, x155004, x155005 => (snap_rises_string.f k x155002 22 23).bind fun t155 => (if t155 = true then ((snap_rises_string.f k x155003 24 25).bind fun t156 => (snap_Check.j1 k x3 t156 x155000 x155001 x155002 x155003 x155004 x155005)) else (snap_Check.j1 k x3 false x155000 x155001 x155002 x155003 x155004 x155005))
def snap_Check.j1 : Nat → Bool → Bool → Int → ByteArray → List ByteArray → List ByteArray → ByteArray → ByteArray → Option (Int)
  | 0, _, _, _, _, _, _, _, _ => none
  | k + 1, x3, x4, x155000, x155001, x155002, x155003, x155004, x155005 => (sha_IsId.f x155004).bind fun t157 => (if t157 = true then (if x155005.toList = ([] : List UInt8) then (if x3 = true then ((snap_word.f x155001 64).bind fun t158 => (if t158 = true then (if x4 = true then (some 0) else (some 200)) else (some 200))) else (some 200)) else ((sha_IsId.f x155005).bind fun t159 => (if x3 = true then ((snap_word.f x155001 64).bind fun t160 => (if t160 = true then (if x4 = true then (if t159 = true then (some 0) else (some 200)) else (some 200)) else (some 200))) else (some 200)))) else (if x3 = true then ((snap_word.f x155001 64).bind fun t161 => (if t161 = true then (if x4 = true then (some 200) else (some 200)) else (some 200))) else (some 200)))
end
def snap_Check.f (k : Nat) (a0_0 : Int) (a0_1 : ByteArray) (l0_2 : List ByteArray) (l0_3 : List ByteArray) (a0_4 : ByteArray) (a0_5 : ByteArray) : Option (Int) := if a0_0 ≥ 0 then (snap_Check.j0 k (decide (a0_0 ≤ 1099511627776)) a0_0 a0_1 l0_2 l0_3 a0_4 a0_5) else (snap_Check.j0 k false a0_0 a0_1 l0_2 l0_3 a0_4 a0_5)
theorem snap_Check.mono_l : ∀ k, (∀ y0 y1 y2 y3 y4 y5 y6, LeO (snap_Check.j0 k y0 y1 y2 y3 y4 y5 y6) (snap_Check.j0 (k + 1) y0 y1 y2 y3 y4 y5 y6)) ∧ (∀ y0 y1 y2 y3 y4 y5 y6 y7, LeO (snap_Check.j1 k y0 y1 y2 y3 y4 y5 y6 y7) (snap_Check.j1 (k + 1) y0 y1 y2 y3 y4 y5 y6 y7))
  | 0 => ⟨fun _ _ _ _ _ _ _ r h => by simp [snap_Check.j0] at h, fun _ _ _ _ _ _ _ _ r h => by simp [snap_Check.j1] at h⟩
  | k + 1 => by
    obtain ⟨ih0, ih1⟩ := snap_Check.mono_l k
    refine ⟨?_, ?_⟩
    · intro y0 y1 y2 y3 y4 y5 y6
      unfold snap_Check.j0
      repeat' first
      | (with_reducible exact ih0 _ _ _ _ _ _ _)
      | (with_reducible exact ih1 _ _ _ _ _ _ _ _)
      | (with_reducible exact snap_rises_string.mono _ _ _ _)
      | (with_reducible exact LeO.refl _)
      | (with_reducible exact LeO.none _)
      | (with_reducible refine LeO.ite ?_ ?_)
      | (with_reducible refine LeO.bind ?_ (fun _ => ?_))
      | exact ih0 _ _ _ _ _ _ _
      | exact ih1 _ _ _ _ _ _ _ _
      | exact snap_rises_string.mono _ _ _ _
      | exact LeO.none _
      | refine LeO.ite ?_ ?_
      | refine LeO.bind ?_ (fun _ => ?_)
    · intro y0 y1 y2 y3 y4 y5 y6 y7
      unfold snap_Check.j1
      repeat' first
      | (with_reducible exact ih0 _ _ _ _ _ _ _)
      | (with_reducible exact ih1 _ _ _ _ _ _ _ _)
      | (with_reducible exact snap_rises_string.mono _ _ _ _)
      | (with_reducible exact LeO.refl _)
      | (with_reducible exact LeO.none _)
      | (with_reducible refine LeO.ite ?_ ?_)
      | (with_reducible refine LeO.bind ?_ (fun _ => ?_))
      | exact ih0 _ _ _ _ _ _ _
      | exact ih1 _ _ _ _ _ _ _ _
      | exact snap_rises_string.mono _ _ _ _
      | exact LeO.none _
      | refine LeO.ite ?_ ?_
      | refine LeO.bind ?_ (fun _ => ?_)
theorem snap_Check.mono : ∀ a0 a1 a2 a3 a4 a5 k, LeO (snap_Check.f k a0 a1 a2 a3 a4 a5) (snap_Check.f (k + 1) a0 a1 a2 a3 a4 a5) := by
  intro a0 a1 a2 a3 a4 a5 k
  obtain ⟨ih0, ih1⟩ := snap_Check.mono_l k
  unfold snap_Check.f
  repeat' first
      | (with_reducible exact ih0 _ _ _ _ _ _ _)
      | (with_reducible exact ih1 _ _ _ _ _ _ _ _)
      | (with_reducible exact snap_rises_string.mono _ _ _ _)
      | (with_reducible exact LeO.refl _)
      | (with_reducible exact LeO.none _)
      | (with_reducible refine LeO.ite ?_ ?_)
      | (with_reducible refine LeO.bind ?_ (fun _ => ?_))
      | exact ih0 _ _ _ _ _ _ _
      | exact ih1 _ _ _ _ _ _ _ _
      | exact snap_rises_string.mono _ _ _ _
      | exact LeO.none _
      | refine LeO.ite ?_ ?_
      | refine LeO.bind ?_ (fun _ => ?_)
set_option maxHeartbeats 8000000 in
set_option maxRecDepth 100000 in
theorem snap_Check.calls (k : Nat) (a0_0 : Int) (a0_1 : ByteArray) (A0_2 : Option Addr) (c0_2 : Nat) (l0_2 : List ByteArray) (A0_3 : Option Addr) (c0_3 : Nat) (l0_3 : List ByteArray) (a0_4 : ByteArray) (a0_5 : ByteArray) (r : Int) (w : World) (hr0_2 : Kd.C Kd.string w A0_2 l0_2.length l0_2) (hc0_2 : l0_2.length ≤ c0_2) (hr0_3 : Kd.C Kd.string w A0_3 l0_3.length l0_3) (hc0_3 : l0_3.length ≤ c0_3) (hL : Laid w) (h : snap_Check.f k a0_0 a0_1 l0_2 l0_3 a0_4 a0_5 = some r) :
    Calls Tryd.prog 8 #[.agg #[.int .i64 a0_0, .string a0_1, .slice A0_2 l0_2.length c0_2, .slice A0_3 l0_3.length c0_3, .string a0_4, .string a0_5]] w fun e w' => e = .returned (.int .i64 r) ∧ Below w.heap.size w w' := by
  have hu24 := Tryd.underlying24
  have HR0_2 := Aside0.mk hr0_2
  have HC0_2 := Aside0.mk hc0_2
  clear hr0_2 hc0_2
  have HR0_3 := Aside0.mk hr0_3
  have HC0_3 := Aside0.mk hc0_3
  clear hr0_3 hc0_3
  have HLAID := Aside0.mk hL
  clear hL
  have HB := Aside0.mk (Below.refl w.heap.size w)
  have H : (if a0_0 ≥ 0 then (snap_Check.j0 k (decide (a0_0 ≤ 1099511627776)) a0_0 a0_1 l0_2 l0_3 a0_4 a0_5) else (snap_Check.j0 k false a0_0 a0_1 l0_2 l0_3 a0_4 a0_5)) = some r := h
  clear h
  have HC2 := Aside0.mk H
  clear H
  go_enter Tryd.func8, Tryd.ntmps8
  go_upto_region 1 with (first | ((with_reducible refine gate_dst (N := 1) rfl ?_); refine box_event ?hg (N := 1) ?hd (cs := #[.int .i64 a0_0, .string a0_1, .slice A0_2 l0_2.length c0_2, .slice A0_3 l0_3.length c0_3, .string a0_4, .string a0_5]) (t := 24) ?hr ?_; (case hd => rfl); (case hg => rfl); (case hr => first | (go_simp; done) | (go_simp; rfl)); intro gb154 hg w3 hbox hb; have n0_ := Aside0.mk (below_step (by repeat (first | (with_reducible first | exact HB.out | apply below_alloc | apply pw_below_drewN | apply below_drew1) | exact HB.out)) hb); have n1_ := Aside0.mk (hbox); have n2_ := Aside0.mk ((by rw [hg]; exact (below_size (by repeat (first | (with_reducible first | exact HB.out | apply below_alloc | apply pw_below_drewN | apply below_drew1) | exact HB.out))) : w.heap.size ≤ gb154)); have n3_ := Aside0.mk ((by rw [hg]; exact (below_size (by repeat (first | (with_reducible first | exact HB.out | apply below_alloc | apply pw_below_drewN | apply below_drew1) | exact HB.out))) : w.heap.size ≤ gb154)); clear HB; have HB := n0_; have BK154 := n1_; have GW154 := n2_; have GE154 := n3_; clear n0_ n1_ n2_ n3_; clear hb hbox hg))
  (try simp only [Act.put, List.setIfInBounds_toArray, List.set_cons_zero, List.set_cons_succ])
  go_cut [3] (fun v3 wc => ∃ (kq : Nat) (x3_1 : Bool), v3 = .bool x3_1 ∧ Aside0 (snap_Check.j0 kq x3_1 a0_0 a0_1 l0_2 l0_3 a0_4 a0_5 = some r) ∧ Aside0 (kq ≤ k) ∧ Aside0 (wc.heap[gb154]? = some (.cells #[.int .i64 a0_0, .string a0_1, (.slice A0_2 l0_2.length c0_2), (.slice A0_3 l0_3.length c0_3), .string a0_4, .string a0_5] 24 (0, 0))) ∧ Aside0 (Below w.heap.size w wc))
  case first =>
    have H := HC2.out
    clear HC2
    by_cases c4 : a0_0 ≥ 0
    · rw [if_pos c4] at H
      have c4b0 : decide (0 ≤ a0_0) = true := decide_eq_true c4
      clear c4
      (first | rw [c4b0] | (simp only [i64_w, i32_w]; rw [c4b0]) | skip)
      have H' := Aside0.mk H
      clear H
      obtain ⟨hcz5_0, hcz5_1, hcz5_2, hcz5_3, hcz5_4, hcz5_5, hfz5_0, hfz5_1, hfz5_2, hfz5_3, hfz5_4, hfz5_5⟩ := blk_all6 (w := w3) BK154.out
      go_wp2
      go_meet
      case rel => exact ⟨_, (decide (a0_0 ≤ 1099511627776)), (by first | rfl | (simp; done) | (simp [*]; done) | (simp; exact (by decide : ∀ p q : Bool, (p == q) = (!(p != q))) _ _) | (simp; exact (by decide : ∀ p q : Bool, (!(p != q)) = (p == q)) _ _)), H', ⟨by first | omega | exact Nat.le_refl _⟩, ⟨by (with_reducible repeat (first | refine blk_drewN ?_ _ | refine blk_drew ?_ | refine blk_alloc ?_ _)); exact BK154.out⟩, ⟨by repeat (first | (with_reducible first | exact HB.out | apply below_alloc | apply pw_below_drewN | apply below_drew1 | refine below_set ?_ GE154.out) | exact HB.out)⟩⟩
    · rw [if_neg c4] at H
      have c4b0 : decide (0 ≤ a0_0) = false := decide_eq_false c4
      clear c4
      (first | rw [c4b0] | (simp only [i64_w, i32_w]; rw [c4b0]) | skip)
      have H' := Aside0.mk H
      clear H
      obtain ⟨hcz6_0, hcz6_1, hcz6_2, hcz6_3, hcz6_4, hcz6_5, hfz6_0, hfz6_1, hfz6_2, hfz6_3, hfz6_4, hfz6_5⟩ := blk_all6 (w := w3) BK154.out
      go_wp2
      go_meet
      case rel => exact ⟨_, (false), (by first | rfl | (simp; done) | (simp [*]; done) | (simp; exact (by decide : ∀ p q : Bool, (p == q) = (!(p != q))) _ _) | (simp; exact (by decide : ∀ p q : Bool, (!(p != q)) = (p == q)) _ _)), H', ⟨by first | omega | exact Nat.le_refl _⟩, ⟨by (with_reducible repeat (first | refine blk_drewN ?_ _ | refine blk_drew ?_ | refine blk_alloc ?_ _)); exact BK154.out⟩, ⟨by repeat (first | (with_reducible first | exact HB.out | apply below_alloc | apply pw_below_drewN | apply below_drew1 | refine below_set ?_ GE154.out) | exact HB.out)⟩⟩
  case rest =>
    clear HC2
    try clear p2
    try clear c4
    try clear c4b0
    try clear hcz5_0
    try clear hcz5_1
    try clear hcz5_2
    try clear hcz5_3
    try clear hcz5_4
    try clear hcz5_5
    try clear hcz6_0
    try clear hcz6_1
    try clear hcz6_2
    try clear hcz6_3
    try clear hcz6_4
    try clear hcz6_5
    try clear hfz5_0
    try clear hfz5_1
    try clear hfz5_2
    try clear hfz5_3
    try clear hfz5_4
    try clear hfz5_5
    try clear hfz6_0
    try clear hfz6_1
    try clear hfz6_2
    try clear hfz6_3
    try clear hfz6_4
    try clear hfz6_5
    obtain ⟨kq, x3_1, rfl, HA, HJ1, BK154, HB⟩ := hcut
    cases kq with
    | zero => exact absurd HA.out (by simp [snap_Check.j0])
    | succ kj1 =>
      have H := HA.out
      clear HA
      simp only [snap_Check.j0] at H
      have HC7 := Aside0.mk H
      clear H
      go_upto_region 2 with (fail)
      go_cut [4] (fun v4 wc => ∃ (kq : Nat) (x4_6 : Bool), v4 = .bool x4_6 ∧ Aside0 (snap_Check.j1 kq x3_1 x4_6 a0_0 a0_1 l0_2 l0_3 a0_4 a0_5 = some r) ∧ Aside0 (kq ≤ kj1) ∧ Aside0 (wc.heap[gb154]? = some (.cells #[.int .i64 a0_0, .string a0_1, (.slice A0_2 l0_2.length c0_2), (.slice A0_3 l0_3.length c0_3), .string a0_4, .string a0_5] 24 (0, 0))) ∧ Aside0 (Below w.heap.size w wc))
      case first =>
        have H := HC7.out
        clear HC7
        replace H := Option.bind_eq_some_iff.mp H
        obtain ⟨t155, A80, H⟩ := H
        replace H : (if t155 = true then ((snap_rises_string.f kj1 l0_3 24 25).bind fun t156 => (snap_Check.j1 kj1 x3_1 t156 a0_0 a0_1 l0_2 l0_3 a0_4 a0_5)) else (snap_Check.j1 kj1 x3_1 false a0_0 a0_1 l0_2 l0_3 a0_4 a0_5)) = some r := H
        have A8 := Aside0.mk A80
        clear A80
        by_cases c9 : t155 = true
        · subst c9
          have H1 : ((snap_rises_string.f kj1 l0_3 24 25).bind fun t156 => (snap_Check.j1 kj1 x3_1 t156 a0_0 a0_1 l0_2 l0_3 a0_4 a0_5)) = some r := by rw [if_pos rfl] at H; exact H
          clear H
          have H := H1
          clear H1
          replace H := Option.bind_eq_some_iff.mp H
          obtain ⟨t156, A100, H⟩ := H
          replace H : (snap_Check.j1 kj1 x3_1 t156 a0_0 a0_1 l0_2 l0_3 a0_4 a0_5) = some r := H
          have A10 := Aside0.mk A100
          clear A100
          have H' := Aside0.mk H
          clear H
          obtain ⟨hcz11_0, hcz11_1, hcz11_2, hcz11_3, hcz11_4, hcz11_5, hfz11_0, hfz11_1, hfz11_2, hfz11_3, hfz11_4, hfz11_5⟩ := blk_all6 (w := wc) BK154.out
          go_wp2_with (first | ((with_reducible refine gate_callee (f := 21) rfl ?_); refine goesL_ (some 16) rfl rfl Tryd.func21 (by kernel_rfl) rfl #[.slice A0_2 l0_2.length c0_2, .func (.func 22) #[] #[], .func (.func 23) #[] #[]] rfl (by (try simp only [List.map_toArray, List.map_cons, List.map_nil]); first | done | rfl | (simp only [List.length_drop, List.length_take]; rfl)) ?_; (with_reducible refine (snap_rises_string.calls kj1 _ _ l0_2 22 23 true _ ?side1 ?side2 ?side3 A8.out).mono ?_); (case side1 => repeat (first | exact (Kd.C_below HR0_2.out HB.out) | (with_reducible refine Kd.C_alloc ?_ _) | (with_reducible refine Kd.C_drewN ?_ _) | (with_reducible refine Kd.C_drew ?_))); (case side2 => exact HC0_2.out); (case side3 => first | exact HLAID.out | exact Laid.drewN HLAID.out _ | exact Laid.below HLAID.out (by repeat (first | (with_reducible first | exact HB.out | apply below_alloc | apply pw_below_drewN | apply below_drew1 | refine below_set ?_ GE154.out) | exact HB.out))); rintro e w12 ⟨rfl, hb⟩; refine ⟨_, rfl, ?_⟩; have n0_ := Aside0.mk (blk_below (g := gb154) (o := .cells #[.int .i64 a0_0, .string a0_1, .slice A0_2 l0_2.length c0_2, .slice A0_3 l0_3.length c0_3, .string a0_4, .string a0_5] 24 (0, 0)) (by (with_reducible repeat (first | refine blk_drewN ?_ _ | refine blk_drew ?_ | refine blk_alloc ?_ _)); exact BK154.out) hb); have n1_ := Aside0.mk (below_step (by repeat (first | (with_reducible first | exact HB.out | apply below_alloc | apply pw_below_drewN | apply below_drew1 | refine below_set ?_ GE154.out) | exact HB.out)) hb); clear BK154; clear HB; have BK154 := n0_; have HB := n1_; clear n0_ n1_; (try clear hb); (try clear hb2); (try clear hk); (try clear hi); obtain ⟨hcz13_0, hcz13_1, hcz13_2, hcz13_3, hcz13_4, hcz13_5, hfz13_0, hfz13_1, hfz13_2, hfz13_3, hfz13_4, hfz13_5⟩ := blk_all6 (w := w12) BK154.out) | (go_at_call 21; (with_reducible refine (snap_rises_string.calls kj1 _ _ l0_3 24 25 t156 _ ?side1 ?side2 ?side3 A10.out).mono ?_); (case side1 => repeat (first | exact (Kd.C_below HR0_3.out HB.out) | (with_reducible refine Kd.C_alloc ?_ _) | (with_reducible refine Kd.C_drewN ?_ _) | (with_reducible refine Kd.C_drew ?_))); (case side2 => exact HC0_3.out); (case side3 => first | exact HLAID.out | exact Laid.drewN HLAID.out _ | exact Laid.below HLAID.out (by repeat (first | (with_reducible first | exact HB.out | apply below_alloc | apply pw_below_drewN | apply below_drew1 | refine below_set ?_ GE154.out) | exact HB.out))); rintro e w14 ⟨rfl, hb⟩; have n0_ := Aside0.mk (blk_below (g := gb154) (o := .cells #[.int .i64 a0_0, .string a0_1, .slice A0_2 l0_2.length c0_2, .slice A0_3 l0_3.length c0_3, .string a0_4, .string a0_5] 24 (0, 0)) (by (with_reducible repeat (first | refine blk_drewN ?_ _ | refine blk_drew ?_ | refine blk_alloc ?_ _)); exact BK154.out) hb); have n1_ := Aside0.mk (below_step (by repeat (first | (with_reducible first | exact HB.out | apply below_alloc | apply pw_below_drewN | apply below_drew1 | refine below_set ?_ GE154.out) | exact HB.out)) hb); clear BK154; clear HB; have BK154 := n0_; have HB := n1_; clear n0_ n1_; (try clear hb); (try clear hb2); (try clear hk); (try clear hi)))
          go_meet
          case rel => exact ⟨_, (t156), (by first | rfl | (simp; done) | (simp [*]; done) | (simp; exact (by decide : ∀ p q : Bool, (p == q) = (!(p != q))) _ _) | (simp; exact (by decide : ∀ p q : Bool, (!(p != q)) = (p == q)) _ _)), H', ⟨by have := HJ1.out; first | omega | exact Nat.le_refl _⟩, ⟨by (with_reducible repeat (first | refine blk_drewN ?_ _ | refine blk_drew ?_ | refine blk_alloc ?_ _)); exact BK154.out⟩, ⟨by repeat (first | (with_reducible first | exact HB.out | apply below_alloc | apply pw_below_drewN | apply below_drew1 | refine below_set ?_ GE154.out) | exact HB.out)⟩⟩
        · replace c9 := Bool.eq_false_iff.mpr c9
          subst c9
          have H1 : (snap_Check.j1 kj1 x3_1 false a0_0 a0_1 l0_2 l0_3 a0_4 a0_5) = some r := by rw [if_neg (show ¬ (false = true) by decide)] at H; exact H
          clear H
          have H := H1
          clear H1
          have H' := Aside0.mk H
          clear H
          obtain ⟨hcz15_0, hcz15_1, hcz15_2, hcz15_3, hcz15_4, hcz15_5, hfz15_0, hfz15_1, hfz15_2, hfz15_3, hfz15_4, hfz15_5⟩ := blk_all6 (w := wc) BK154.out
          go_wp2_with (first | ((with_reducible refine gate_callee (f := 21) rfl ?_); refine goesL_ (some 16) rfl rfl Tryd.func21 (by kernel_rfl) rfl #[.slice A0_2 l0_2.length c0_2, .func (.func 22) #[] #[], .func (.func 23) #[] #[]] rfl (by (try simp only [List.map_toArray, List.map_cons, List.map_nil]); first | done | rfl | (simp only [List.length_drop, List.length_take]; rfl)) ?_; (with_reducible refine (snap_rises_string.calls kj1 _ _ l0_2 22 23 false _ ?side1 ?side2 ?side3 A8.out).mono ?_); (case side1 => repeat (first | exact (Kd.C_below HR0_2.out HB.out) | (with_reducible refine Kd.C_alloc ?_ _) | (with_reducible refine Kd.C_drewN ?_ _) | (with_reducible refine Kd.C_drew ?_))); (case side2 => exact HC0_2.out); (case side3 => first | exact HLAID.out | exact Laid.drewN HLAID.out _ | exact Laid.below HLAID.out (by repeat (first | (with_reducible first | exact HB.out | apply below_alloc | apply pw_below_drewN | apply below_drew1 | refine below_set ?_ GE154.out) | exact HB.out))); rintro e w16 ⟨rfl, hb⟩; refine ⟨_, rfl, ?_⟩; have n0_ := Aside0.mk (blk_below (g := gb154) (o := .cells #[.int .i64 a0_0, .string a0_1, .slice A0_2 l0_2.length c0_2, .slice A0_3 l0_3.length c0_3, .string a0_4, .string a0_5] 24 (0, 0)) (by (with_reducible repeat (first | refine blk_drewN ?_ _ | refine blk_drew ?_ | refine blk_alloc ?_ _)); exact BK154.out) hb); have n1_ := Aside0.mk (below_step (by repeat (first | (with_reducible first | exact HB.out | apply below_alloc | apply pw_below_drewN | apply below_drew1 | refine below_set ?_ GE154.out) | exact HB.out)) hb); clear BK154; clear HB; have BK154 := n0_; have HB := n1_; clear n0_ n1_; (try clear hb); (try clear hb2); (try clear hk); (try clear hi)))
          go_meet
          case rel => exact ⟨_, (false), (by first | rfl | (simp; done) | (simp [*]; done) | (simp; exact (by decide : ∀ p q : Bool, (p == q) = (!(p != q))) _ _) | (simp; exact (by decide : ∀ p q : Bool, (!(p != q)) = (p == q)) _ _)), H', ⟨by have := HJ1.out; first | omega | exact Nat.le_refl _⟩, ⟨by (with_reducible repeat (first | refine blk_drewN ?_ _ | refine blk_drew ?_ | refine blk_alloc ?_ _)); exact BK154.out⟩, ⟨by repeat (first | (with_reducible first | exact HB.out | apply below_alloc | apply pw_below_drewN | apply below_drew1 | refine below_set ?_ GE154.out) | exact HB.out)⟩⟩
      case rest =>
        clear HC7
        try clear c2
        try clear p2
        try clear c4
        try clear c4b0
        try clear c8
        try clear c9
        try clear hcz11_0
        try clear hcz11_1
        try clear hcz11_2
        try clear hcz11_3
        try clear hcz11_4
        try clear hcz11_5
        try clear hcz13_0
        try clear hcz13_1
        try clear hcz13_2
        try clear hcz13_3
        try clear hcz13_4
        try clear hcz13_5
        try clear hcz15_0
        try clear hcz15_1
        try clear hcz15_2
        try clear hcz15_3
        try clear hcz15_4
        try clear hcz15_5
        try clear hcz5_0
        try clear hcz5_1
        try clear hcz5_2
        try clear hcz5_3
        try clear hcz5_4
        try clear hcz5_5
        try clear hcz6_0
        try clear hcz6_1
        try clear hcz6_2
        try clear hcz6_3
        try clear hcz6_4
        try clear hcz6_5
        try clear hfz11_0
        try clear hfz11_1
        try clear hfz11_2
        try clear hfz11_3
        try clear hfz11_4
        try clear hfz11_5
        try clear hfz13_0
        try clear hfz13_1
        try clear hfz13_2
        try clear hfz13_3
        try clear hfz13_4
        try clear hfz13_5
        try clear hfz15_0
        try clear hfz15_1
        try clear hfz15_2
        try clear hfz15_3
        try clear hfz15_4
        try clear hfz15_5
        try clear hfz5_0
        try clear hfz5_1
        try clear hfz5_2
        try clear hfz5_3
        try clear hfz5_4
        try clear hfz5_5
        try clear hfz6_0
        try clear hfz6_1
        try clear hfz6_2
        try clear hfz6_3
        try clear hfz6_4
        try clear hfz6_5
        try clear p2
        obtain ⟨kq, x4_6, rfl, HA, HJ6, BK154, HB⟩ := hcut
        cases kq with
        | zero => exact absurd HA.out (by simp [snap_Check.j1])
        | succ kj6 =>
          have H := HA.out
          clear HA
          simp only [snap_Check.j1] at H
          replace H := Option.bind_eq_some_iff.mp H
          obtain ⟨t157, A170, H⟩ := H
          replace H : (if t157 = true then (if a0_5.toList = ([] : List UInt8) then (if x3_1 = true then ((snap_word.f a0_1 64).bind fun t158 => (if t158 = true then (if x4_6 = true then (some 0) else (some 200)) else (some 200))) else (some 200)) else ((sha_IsId.f a0_5).bind fun t159 => (if x3_1 = true then ((snap_word.f a0_1 64).bind fun t160 => (if t160 = true then (if x4_6 = true then (if t159 = true then (some 0) else (some 200)) else (some 200)) else (some 200))) else (some 200)))) else (if x3_1 = true then ((snap_word.f a0_1 64).bind fun t161 => (if t161 = true then (if x4_6 = true then (some 200) else (some 200)) else (some 200))) else (some 200))) = some r := H
          have A17 := Aside0.mk A170
          clear A170
          by_cases c18 : t157 = true
          · subst c18
            have H1 : (if a0_5.toList = ([] : List UInt8) then (if x3_1 = true then ((snap_word.f a0_1 64).bind fun t158 => (if t158 = true then (if x4_6 = true then (some 0) else (some 200)) else (some 200))) else (some 200)) else ((sha_IsId.f a0_5).bind fun t159 => (if x3_1 = true then ((snap_word.f a0_1 64).bind fun t160 => (if t160 = true then (if x4_6 = true then (if t159 = true then (some 0) else (some 200)) else (some 200)) else (some 200))) else (some 200)))) = some r := by rw [if_pos rfl] at H; exact H
            clear H
            have H := H1
            clear H1
            by_cases c19 : a0_5.toList = ([] : List UInt8)
            · rw [if_pos c19] at H
              have c19b0 : (a0_5.toList == ([] : List UInt8)) = true := beq_iff_eq.mpr c19
              have c19b1 : (a0_5.toList != ([] : List UInt8)) = false := bne_eq_false_iff_eq.mpr c19
              have c19b2 : a0_5.toList.isEmpty = true := by rw [c19]; rfl
              clear c19
              by_cases c20 : x3_1 = true
              · subst c20
                have H1 : ((snap_word.f a0_1 64).bind fun t158 => (if t158 = true then (if x4_6 = true then (some 0) else (some 200)) else (some 200))) = some r := by rw [if_pos rfl] at H; exact H
                clear H
                have H := H1
                clear H1
                replace H := Option.bind_eq_some_iff.mp H
                obtain ⟨t158, A210, H⟩ := H
                replace H : (if t158 = true then (if x4_6 = true then (some 0) else (some 200)) else (some 200)) = some r := H
                have A21 := Aside0.mk A210
                clear A210
                by_cases c22 : t158 = true
                · subst c22
                  have H1 : (if x4_6 = true then (some 0) else (some 200)) = some r := by rw [if_pos rfl] at H; exact H
                  clear H
                  have H := H1
                  clear H1
                  by_cases c23 : x4_6 = true
                  · subst c23
                    have H1 : (some 0) = some r := by rw [if_pos rfl] at H; exact H
                    clear H
                    have H := H1
                    clear H1
                    obtain rfl := Option.some.inj H
                    obtain ⟨hcz24_0, hcz24_1, hcz24_2, hcz24_3, hcz24_4, hcz24_5, hfz24_0, hfz24_1, hfz24_2, hfz24_3, hfz24_4, hfz24_5⟩ := blk_all6 (w := wc) BK154.out
                    go_wp2_with (first | ((with_reducible refine gate_callee (f := 26) rfl ?_); refine goesL_ (some 24) rfl rfl Tryd.func26 (by kernel_rfl) rfl #[.string a0_4] rfl (by (try simp only [List.map_toArray, List.map_cons, List.map_nil]); first | done | rfl | (simp only [List.length_drop, List.length_take]; rfl)) ?_; (with_reducible refine (sha_IsId.calls a0_4 true _ A17.out).mono ?_); rintro e w' ⟨rfl, ⟨nd, rfl⟩⟩; refine ⟨_, rfl, ?_⟩) | (go_at_call 27; (with_reducible refine (snap_word.calls a0_1 64 true _ A21.out).mono ?_); rintro e w25 ⟨rfl, hb⟩; have n0_ := Aside0.mk (blk_below (g := gb154) (o := .cells #[.int .i64 a0_0, .string a0_1, .slice A0_2 l0_2.length c0_2, .slice A0_3 l0_3.length c0_3, .string a0_4, .string a0_5] 24 (0, 0)) (by (with_reducible repeat (first | refine blk_drewN ?_ _ | refine blk_drew ?_ | refine blk_alloc ?_ _)); exact BK154.out) hb); have n1_ := Aside0.mk (below_step (by repeat (first | (with_reducible first | exact HB.out | apply below_alloc | apply pw_below_drewN | apply below_drew1 | refine below_set ?_ GE154.out) | exact HB.out)) hb); clear BK154; clear HB; have BK154 := n0_; have HB := n1_; clear n0_ n1_; (try clear hb); (try clear hb2); (try clear hk); (try clear hi)))
                    go_ret
                    exact ⟨by first | rfl | (simp [errW_none, errW_some] <;> rfl) | (simp [*, errW_none, errW_some] <;> rfl), by repeat (first | (with_reducible first | exact HB.out | apply below_alloc | apply pw_below_drewN | apply below_drew1 | refine below_set ?_ GE154.out) | exact HB.out)⟩
                  · replace c23 := Bool.eq_false_iff.mpr c23
                    subst c23
                    have H1 : (some 200) = some r := by rw [if_neg (show ¬ (false = true) by decide)] at H; exact H
                    clear H
                    have H := H1
                    clear H1
                    obtain rfl := Option.some.inj H
                    obtain ⟨hcz26_0, hcz26_1, hcz26_2, hcz26_3, hcz26_4, hcz26_5, hfz26_0, hfz26_1, hfz26_2, hfz26_3, hfz26_4, hfz26_5⟩ := blk_all6 (w := wc) BK154.out
                    go_wp2_with (first | ((with_reducible refine gate_callee (f := 26) rfl ?_); refine goesL_ (some 24) rfl rfl Tryd.func26 (by kernel_rfl) rfl #[.string a0_4] rfl (by (try simp only [List.map_toArray, List.map_cons, List.map_nil]); first | done | rfl | (simp only [List.length_drop, List.length_take]; rfl)) ?_; (with_reducible refine (sha_IsId.calls a0_4 true _ A17.out).mono ?_); rintro e w' ⟨rfl, ⟨nd, rfl⟩⟩; refine ⟨_, rfl, ?_⟩) | (go_at_call 27; (with_reducible refine (snap_word.calls a0_1 64 true _ A21.out).mono ?_); rintro e w27 ⟨rfl, hb⟩; have n0_ := Aside0.mk (blk_below (g := gb154) (o := .cells #[.int .i64 a0_0, .string a0_1, .slice A0_2 l0_2.length c0_2, .slice A0_3 l0_3.length c0_3, .string a0_4, .string a0_5] 24 (0, 0)) (by (with_reducible repeat (first | refine blk_drewN ?_ _ | refine blk_drew ?_ | refine blk_alloc ?_ _)); exact BK154.out) hb); have n1_ := Aside0.mk (below_step (by repeat (first | (with_reducible first | exact HB.out | apply below_alloc | apply pw_below_drewN | apply below_drew1 | refine below_set ?_ GE154.out) | exact HB.out)) hb); clear BK154; clear HB; have BK154 := n0_; have HB := n1_; clear n0_ n1_; (try clear hb); (try clear hb2); (try clear hk); (try clear hi)))
                    go_ret
                    exact ⟨by first | rfl | (simp [errW_none, errW_some] <;> rfl) | (simp [*, errW_none, errW_some] <;> rfl), by repeat (first | (with_reducible first | exact HB.out | apply below_alloc | apply pw_below_drewN | apply below_drew1 | refine below_set ?_ GE154.out) | exact HB.out)⟩
                · replace c22 := Bool.eq_false_iff.mpr c22
                  subst c22
                  have H1 : (some 200) = some r := by rw [if_neg (show ¬ (false = true) by decide)] at H; exact H
                  clear H
                  have H := H1
                  clear H1
                  obtain rfl := Option.some.inj H
                  obtain ⟨hcz28_0, hcz28_1, hcz28_2, hcz28_3, hcz28_4, hcz28_5, hfz28_0, hfz28_1, hfz28_2, hfz28_3, hfz28_4, hfz28_5⟩ := blk_all6 (w := wc) BK154.out
                  go_wp2_with (first | ((with_reducible refine gate_callee (f := 26) rfl ?_); refine goesL_ (some 24) rfl rfl Tryd.func26 (by kernel_rfl) rfl #[.string a0_4] rfl (by (try simp only [List.map_toArray, List.map_cons, List.map_nil]); first | done | rfl | (simp only [List.length_drop, List.length_take]; rfl)) ?_; (with_reducible refine (sha_IsId.calls a0_4 true _ A17.out).mono ?_); rintro e w' ⟨rfl, ⟨nd, rfl⟩⟩; refine ⟨_, rfl, ?_⟩) | (go_at_call 27; (with_reducible refine (snap_word.calls a0_1 64 false _ A21.out).mono ?_); rintro e w29 ⟨rfl, hb⟩; have n0_ := Aside0.mk (blk_below (g := gb154) (o := .cells #[.int .i64 a0_0, .string a0_1, .slice A0_2 l0_2.length c0_2, .slice A0_3 l0_3.length c0_3, .string a0_4, .string a0_5] 24 (0, 0)) (by (with_reducible repeat (first | refine blk_drewN ?_ _ | refine blk_drew ?_ | refine blk_alloc ?_ _)); exact BK154.out) hb); have n1_ := Aside0.mk (below_step (by repeat (first | (with_reducible first | exact HB.out | apply below_alloc | apply pw_below_drewN | apply below_drew1 | refine below_set ?_ GE154.out) | exact HB.out)) hb); clear BK154; clear HB; have BK154 := n0_; have HB := n1_; clear n0_ n1_; (try clear hb); (try clear hb2); (try clear hk); (try clear hi)))
                  go_ret
                  exact ⟨by first | rfl | (simp [errW_none, errW_some] <;> rfl) | (simp [*, errW_none, errW_some] <;> rfl), by repeat (first | (with_reducible first | exact HB.out | apply below_alloc | apply pw_below_drewN | apply below_drew1 | refine below_set ?_ GE154.out) | exact HB.out)⟩
              · replace c20 := Bool.eq_false_iff.mpr c20
                subst c20
                have H1 : (some 200) = some r := by rw [if_neg (show ¬ (false = true) by decide)] at H; exact H
                clear H
                have H := H1
                clear H1
                obtain rfl := Option.some.inj H
                obtain ⟨hcz30_0, hcz30_1, hcz30_2, hcz30_3, hcz30_4, hcz30_5, hfz30_0, hfz30_1, hfz30_2, hfz30_3, hfz30_4, hfz30_5⟩ := blk_all6 (w := wc) BK154.out
                go_wp2_with (first | ((with_reducible refine gate_callee (f := 26) rfl ?_); refine goesL_ (some 24) rfl rfl Tryd.func26 (by kernel_rfl) rfl #[.string a0_4] rfl (by (try simp only [List.map_toArray, List.map_cons, List.map_nil]); first | done | rfl | (simp only [List.length_drop, List.length_take]; rfl)) ?_; (with_reducible refine (sha_IsId.calls a0_4 true _ A17.out).mono ?_); rintro e w' ⟨rfl, ⟨nd, rfl⟩⟩; refine ⟨_, rfl, ?_⟩))
                go_ret
                exact ⟨by first | rfl | (simp [errW_none, errW_some] <;> rfl) | (simp [*, errW_none, errW_some] <;> rfl), by repeat (first | (with_reducible first | exact HB.out | apply below_alloc | apply pw_below_drewN | apply below_drew1 | refine below_set ?_ GE154.out) | exact HB.out)⟩
            · rw [if_neg c19] at H
              have c19b0 : (a0_5.toList == ([] : List UInt8)) = false := beq_eq_false_iff_ne.mpr c19
              have c19b1 : (a0_5.toList != ([] : List UInt8)) = true := bne_iff_ne.mpr c19
              have c19b2 : a0_5.toList.isEmpty = false := by simpa using c19
              replace H := Option.bind_eq_some_iff.mp H
              obtain ⟨t159, A310, H⟩ := H
              replace H : (if x3_1 = true then ((snap_word.f a0_1 64).bind fun t160 => (if t160 = true then (if x4_6 = true then (if t159 = true then (some 0) else (some 200)) else (some 200)) else (some 200))) else (some 200)) = some r := H
              have A31 := Aside0.mk A310
              clear A310
              by_cases c32 : x3_1 = true
              · subst c32
                have H1 : ((snap_word.f a0_1 64).bind fun t160 => (if t160 = true then (if x4_6 = true then (if t159 = true then (some 0) else (some 200)) else (some 200)) else (some 200))) = some r := by rw [if_pos rfl] at H; exact H
                clear H
                have H := H1
                clear H1
                replace H := Option.bind_eq_some_iff.mp H
                obtain ⟨t160, A330, H⟩ := H
                replace H : (if t160 = true then (if x4_6 = true then (if t159 = true then (some 0) else (some 200)) else (some 200)) else (some 200)) = some r := H
                have A33 := Aside0.mk A330
                clear A330
                by_cases c34 : t160 = true
                · subst c34
                  have H1 : (if x4_6 = true then (if t159 = true then (some 0) else (some 200)) else (some 200)) = some r := by rw [if_pos rfl] at H; exact H
                  clear H
                  have H := H1
                  clear H1
                  by_cases c35 : x4_6 = true
                  · subst c35
                    have H1 : (if t159 = true then (some 0) else (some 200)) = some r := by rw [if_pos rfl] at H; exact H
                    clear H
                    have H := H1
                    clear H1
                    by_cases c36 : t159 = true
                    · subst c36
                      have H1 : (some 0) = some r := by rw [if_pos rfl] at H; exact H
                      clear H
                      have H := H1
                      clear H1
                      obtain rfl := Option.some.inj H
                      obtain ⟨hcz37_0, hcz37_1, hcz37_2, hcz37_3, hcz37_4, hcz37_5, hfz37_0, hfz37_1, hfz37_2, hfz37_3, hfz37_4, hfz37_5⟩ := blk_all6 (w := wc) BK154.out
                      go_wp2_with (first | ((with_reducible refine gate_callee (f := 26) rfl ?_); refine goesL_ (some 24) rfl rfl Tryd.func26 (by kernel_rfl) rfl #[.string a0_4] rfl (by (try simp only [List.map_toArray, List.map_cons, List.map_nil]); first | done | rfl | (simp only [List.length_drop, List.length_take]; rfl)) ?_; (with_reducible refine (sha_IsId.calls a0_4 true _ A17.out).mono ?_); rintro e w' ⟨rfl, ⟨nd, rfl⟩⟩; refine ⟨_, rfl, ?_⟩) | (go_at_call 26; (with_reducible refine (sha_IsId.calls a0_5 true _ A31.out).mono ?_); rintro e w' ⟨rfl, ⟨nd, rfl⟩⟩) | (go_at_call 27; (with_reducible refine (snap_word.calls a0_1 64 true _ A33.out).mono ?_); rintro e w38 ⟨rfl, hb⟩; have n0_ := Aside0.mk (blk_below (g := gb154) (o := .cells #[.int .i64 a0_0, .string a0_1, .slice A0_2 l0_2.length c0_2, .slice A0_3 l0_3.length c0_3, .string a0_4, .string a0_5] 24 (0, 0)) (by (with_reducible repeat (first | refine blk_drewN ?_ _ | refine blk_drew ?_ | refine blk_alloc ?_ _)); exact BK154.out) hb); have n1_ := Aside0.mk (below_step (by repeat (first | (with_reducible first | exact HB.out | apply below_alloc | apply pw_below_drewN | apply below_drew1 | refine below_set ?_ GE154.out) | exact HB.out)) hb); clear BK154; clear HB; have BK154 := n0_; have HB := n1_; clear n0_ n1_; (try clear hb); (try clear hb2); (try clear hk); (try clear hi)))
                      go_ret
                      exact ⟨by first | rfl | (simp [errW_none, errW_some] <;> rfl) | (simp [*, errW_none, errW_some] <;> rfl), by repeat (first | (with_reducible first | exact HB.out | apply below_alloc | apply pw_below_drewN | apply below_drew1 | refine below_set ?_ GE154.out) | exact HB.out)⟩
                    · replace c36 := Bool.eq_false_iff.mpr c36
                      subst c36
                      have H1 : (some 200) = some r := by rw [if_neg (show ¬ (false = true) by decide)] at H; exact H
                      clear H
                      have H := H1
                      clear H1
                      obtain rfl := Option.some.inj H
                      obtain ⟨hcz39_0, hcz39_1, hcz39_2, hcz39_3, hcz39_4, hcz39_5, hfz39_0, hfz39_1, hfz39_2, hfz39_3, hfz39_4, hfz39_5⟩ := blk_all6 (w := wc) BK154.out
                      go_wp2_with (first | ((with_reducible refine gate_callee (f := 26) rfl ?_); refine goesL_ (some 24) rfl rfl Tryd.func26 (by kernel_rfl) rfl #[.string a0_4] rfl (by (try simp only [List.map_toArray, List.map_cons, List.map_nil]); first | done | rfl | (simp only [List.length_drop, List.length_take]; rfl)) ?_; (with_reducible refine (sha_IsId.calls a0_4 true _ A17.out).mono ?_); rintro e w' ⟨rfl, ⟨nd, rfl⟩⟩; refine ⟨_, rfl, ?_⟩) | (go_at_call 26; (with_reducible refine (sha_IsId.calls a0_5 false _ A31.out).mono ?_); rintro e w' ⟨rfl, ⟨nd, rfl⟩⟩) | (go_at_call 27; (with_reducible refine (snap_word.calls a0_1 64 true _ A33.out).mono ?_); rintro e w40 ⟨rfl, hb⟩; have n0_ := Aside0.mk (blk_below (g := gb154) (o := .cells #[.int .i64 a0_0, .string a0_1, .slice A0_2 l0_2.length c0_2, .slice A0_3 l0_3.length c0_3, .string a0_4, .string a0_5] 24 (0, 0)) (by (with_reducible repeat (first | refine blk_drewN ?_ _ | refine blk_drew ?_ | refine blk_alloc ?_ _)); exact BK154.out) hb); have n1_ := Aside0.mk (below_step (by repeat (first | (with_reducible first | exact HB.out | apply below_alloc | apply pw_below_drewN | apply below_drew1 | refine below_set ?_ GE154.out) | exact HB.out)) hb); clear BK154; clear HB; have BK154 := n0_; have HB := n1_; clear n0_ n1_; (try clear hb); (try clear hb2); (try clear hk); (try clear hi)))
                      go_ret
                      exact ⟨by first | rfl | (simp [errW_none, errW_some] <;> rfl) | (simp [*, errW_none, errW_some] <;> rfl), by repeat (first | (with_reducible first | exact HB.out | apply below_alloc | apply pw_below_drewN | apply below_drew1 | refine below_set ?_ GE154.out) | exact HB.out)⟩
                  · replace c35 := Bool.eq_false_iff.mpr c35
                    subst c35
                    have H1 : (some 200) = some r := by rw [if_neg (show ¬ (false = true) by decide)] at H; exact H
                    clear H
                    have H := H1
                    clear H1
                    obtain rfl := Option.some.inj H
                    obtain ⟨hcz41_0, hcz41_1, hcz41_2, hcz41_3, hcz41_4, hcz41_5, hfz41_0, hfz41_1, hfz41_2, hfz41_3, hfz41_4, hfz41_5⟩ := blk_all6 (w := wc) BK154.out
                    go_wp2_with (first | ((with_reducible refine gate_callee (f := 26) rfl ?_); refine goesL_ (some 24) rfl rfl Tryd.func26 (by kernel_rfl) rfl #[.string a0_4] rfl (by (try simp only [List.map_toArray, List.map_cons, List.map_nil]); first | done | rfl | (simp only [List.length_drop, List.length_take]; rfl)) ?_; (with_reducible refine (sha_IsId.calls a0_4 true _ A17.out).mono ?_); rintro e w' ⟨rfl, ⟨nd, rfl⟩⟩; refine ⟨_, rfl, ?_⟩) | (go_at_call 26; (with_reducible refine (sha_IsId.calls a0_5 t159 _ A31.out).mono ?_); rintro e w' ⟨rfl, ⟨nd, rfl⟩⟩) | (go_at_call 27; (with_reducible refine (snap_word.calls a0_1 64 true _ A33.out).mono ?_); rintro e w42 ⟨rfl, hb⟩; have n0_ := Aside0.mk (blk_below (g := gb154) (o := .cells #[.int .i64 a0_0, .string a0_1, .slice A0_2 l0_2.length c0_2, .slice A0_3 l0_3.length c0_3, .string a0_4, .string a0_5] 24 (0, 0)) (by (with_reducible repeat (first | refine blk_drewN ?_ _ | refine blk_drew ?_ | refine blk_alloc ?_ _)); exact BK154.out) hb); have n1_ := Aside0.mk (below_step (by repeat (first | (with_reducible first | exact HB.out | apply below_alloc | apply pw_below_drewN | apply below_drew1 | refine below_set ?_ GE154.out) | exact HB.out)) hb); clear BK154; clear HB; have BK154 := n0_; have HB := n1_; clear n0_ n1_; (try clear hb); (try clear hb2); (try clear hk); (try clear hi)))
                    go_ret
                    exact ⟨by first | rfl | (simp [errW_none, errW_some] <;> rfl) | (simp [*, errW_none, errW_some] <;> rfl), by repeat (first | (with_reducible first | exact HB.out | apply below_alloc | apply pw_below_drewN | apply below_drew1 | refine below_set ?_ GE154.out) | exact HB.out)⟩
                · replace c34 := Bool.eq_false_iff.mpr c34
                  subst c34
                  have H1 : (some 200) = some r := by rw [if_neg (show ¬ (false = true) by decide)] at H; exact H
                  clear H
                  have H := H1
                  clear H1
                  obtain rfl := Option.some.inj H
                  obtain ⟨hcz43_0, hcz43_1, hcz43_2, hcz43_3, hcz43_4, hcz43_5, hfz43_0, hfz43_1, hfz43_2, hfz43_3, hfz43_4, hfz43_5⟩ := blk_all6 (w := wc) BK154.out
                  go_wp2_with (first | ((with_reducible refine gate_callee (f := 26) rfl ?_); refine goesL_ (some 24) rfl rfl Tryd.func26 (by kernel_rfl) rfl #[.string a0_4] rfl (by (try simp only [List.map_toArray, List.map_cons, List.map_nil]); first | done | rfl | (simp only [List.length_drop, List.length_take]; rfl)) ?_; (with_reducible refine (sha_IsId.calls a0_4 true _ A17.out).mono ?_); rintro e w' ⟨rfl, ⟨nd, rfl⟩⟩; refine ⟨_, rfl, ?_⟩) | (go_at_call 26; (with_reducible refine (sha_IsId.calls a0_5 t159 _ A31.out).mono ?_); rintro e w' ⟨rfl, ⟨nd, rfl⟩⟩) | (go_at_call 27; (with_reducible refine (snap_word.calls a0_1 64 false _ A33.out).mono ?_); rintro e w44 ⟨rfl, hb⟩; have n0_ := Aside0.mk (blk_below (g := gb154) (o := .cells #[.int .i64 a0_0, .string a0_1, .slice A0_2 l0_2.length c0_2, .slice A0_3 l0_3.length c0_3, .string a0_4, .string a0_5] 24 (0, 0)) (by (with_reducible repeat (first | refine blk_drewN ?_ _ | refine blk_drew ?_ | refine blk_alloc ?_ _)); exact BK154.out) hb); have n1_ := Aside0.mk (below_step (by repeat (first | (with_reducible first | exact HB.out | apply below_alloc | apply pw_below_drewN | apply below_drew1 | refine below_set ?_ GE154.out) | exact HB.out)) hb); clear BK154; clear HB; have BK154 := n0_; have HB := n1_; clear n0_ n1_; (try clear hb); (try clear hb2); (try clear hk); (try clear hi)))
                  go_ret
                  exact ⟨by first | rfl | (simp [errW_none, errW_some] <;> rfl) | (simp [*, errW_none, errW_some] <;> rfl), by repeat (first | (with_reducible first | exact HB.out | apply below_alloc | apply pw_below_drewN | apply below_drew1 | refine below_set ?_ GE154.out) | exact HB.out)⟩
              · replace c32 := Bool.eq_false_iff.mpr c32
                subst c32
                have H1 : (some 200) = some r := by rw [if_neg (show ¬ (false = true) by decide)] at H; exact H
                clear H
                have H := H1
                clear H1
                obtain rfl := Option.some.inj H
                obtain ⟨hcz45_0, hcz45_1, hcz45_2, hcz45_3, hcz45_4, hcz45_5, hfz45_0, hfz45_1, hfz45_2, hfz45_3, hfz45_4, hfz45_5⟩ := blk_all6 (w := wc) BK154.out
                go_wp2_with (first | ((with_reducible refine gate_callee (f := 26) rfl ?_); refine goesL_ (some 24) rfl rfl Tryd.func26 (by kernel_rfl) rfl #[.string a0_4] rfl (by (try simp only [List.map_toArray, List.map_cons, List.map_nil]); first | done | rfl | (simp only [List.length_drop, List.length_take]; rfl)) ?_; (with_reducible refine (sha_IsId.calls a0_4 true _ A17.out).mono ?_); rintro e w' ⟨rfl, ⟨nd, rfl⟩⟩; refine ⟨_, rfl, ?_⟩) | (go_at_call 26; (with_reducible refine (sha_IsId.calls a0_5 t159 _ A31.out).mono ?_); rintro e w' ⟨rfl, ⟨nd, rfl⟩⟩))
                go_ret
                exact ⟨by first | rfl | (simp [errW_none, errW_some] <;> rfl) | (simp [*, errW_none, errW_some] <;> rfl), by repeat (first | (with_reducible first | exact HB.out | apply below_alloc | apply pw_below_drewN | apply below_drew1 | refine below_set ?_ GE154.out) | exact HB.out)⟩
          · replace c18 := Bool.eq_false_iff.mpr c18
            subst c18
            have H1 : (if x3_1 = true then ((snap_word.f a0_1 64).bind fun t161 => (if t161 = true then (if x4_6 = true then (some 200) else (some 200)) else (some 200))) else (some 200)) = some r := by rw [if_neg (show ¬ (false = true) by decide)] at H; exact H
            clear H
            have H := H1
            clear H1
            by_cases c46 : x3_1 = true
            · subst c46
              have H1 : ((snap_word.f a0_1 64).bind fun t161 => (if t161 = true then (if x4_6 = true then (some 200) else (some 200)) else (some 200))) = some r := by rw [if_pos rfl] at H; exact H
              clear H
              have H := H1
              clear H1
              replace H := Option.bind_eq_some_iff.mp H
              obtain ⟨t161, A470, H⟩ := H
              replace H : (if t161 = true then (if x4_6 = true then (some 200) else (some 200)) else (some 200)) = some r := H
              have A47 := Aside0.mk A470
              clear A470
              by_cases c48 : t161 = true
              · subst c48
                have H1 : (if x4_6 = true then (some 200) else (some 200)) = some r := by rw [if_pos rfl] at H; exact H
                clear H
                have H := H1
                clear H1
                by_cases c49 : x4_6 = true
                · subst c49
                  have H1 : (some 200) = some r := by rw [if_pos rfl] at H; exact H
                  clear H
                  have H := H1
                  clear H1
                  obtain rfl := Option.some.inj H
                  obtain ⟨hcz50_0, hcz50_1, hcz50_2, hcz50_3, hcz50_4, hcz50_5, hfz50_0, hfz50_1, hfz50_2, hfz50_3, hfz50_4, hfz50_5⟩ := blk_all6 (w := wc) BK154.out
                  go_wp2_with (first | ((with_reducible refine gate_callee (f := 26) rfl ?_); refine goesL_ (some 24) rfl rfl Tryd.func26 (by kernel_rfl) rfl #[.string a0_4] rfl (by (try simp only [List.map_toArray, List.map_cons, List.map_nil]); first | done | rfl | (simp only [List.length_drop, List.length_take]; rfl)) ?_; (with_reducible refine (sha_IsId.calls a0_4 false _ A17.out).mono ?_); rintro e w' ⟨rfl, ⟨nd, rfl⟩⟩; refine ⟨_, rfl, ?_⟩) | (go_at_call 27; (with_reducible refine (snap_word.calls a0_1 64 true _ A47.out).mono ?_); rintro e w51 ⟨rfl, hb⟩; have n0_ := Aside0.mk (blk_below (g := gb154) (o := .cells #[.int .i64 a0_0, .string a0_1, .slice A0_2 l0_2.length c0_2, .slice A0_3 l0_3.length c0_3, .string a0_4, .string a0_5] 24 (0, 0)) (by (with_reducible repeat (first | refine blk_drewN ?_ _ | refine blk_drew ?_ | refine blk_alloc ?_ _)); exact BK154.out) hb); have n1_ := Aside0.mk (below_step (by repeat (first | (with_reducible first | exact HB.out | apply below_alloc | apply pw_below_drewN | apply below_drew1 | refine below_set ?_ GE154.out) | exact HB.out)) hb); clear BK154; clear HB; have BK154 := n0_; have HB := n1_; clear n0_ n1_; (try clear hb); (try clear hb2); (try clear hk); (try clear hi)))
                  go_ret
                  exact ⟨by first | rfl | (simp [errW_none, errW_some] <;> rfl) | (simp [*, errW_none, errW_some] <;> rfl), by repeat (first | (with_reducible first | exact HB.out | apply below_alloc | apply pw_below_drewN | apply below_drew1 | refine below_set ?_ GE154.out) | exact HB.out)⟩
                · replace c49 := Bool.eq_false_iff.mpr c49
                  subst c49
                  have H1 : (some 200) = some r := by rw [if_neg (show ¬ (false = true) by decide)] at H; exact H
                  clear H
                  have H := H1
                  clear H1
                  obtain rfl := Option.some.inj H
                  obtain ⟨hcz52_0, hcz52_1, hcz52_2, hcz52_3, hcz52_4, hcz52_5, hfz52_0, hfz52_1, hfz52_2, hfz52_3, hfz52_4, hfz52_5⟩ := blk_all6 (w := wc) BK154.out
                  go_wp2_with (first | ((with_reducible refine gate_callee (f := 26) rfl ?_); refine goesL_ (some 24) rfl rfl Tryd.func26 (by kernel_rfl) rfl #[.string a0_4] rfl (by (try simp only [List.map_toArray, List.map_cons, List.map_nil]); first | done | rfl | (simp only [List.length_drop, List.length_take]; rfl)) ?_; (with_reducible refine (sha_IsId.calls a0_4 false _ A17.out).mono ?_); rintro e w' ⟨rfl, ⟨nd, rfl⟩⟩; refine ⟨_, rfl, ?_⟩) | (go_at_call 27; (with_reducible refine (snap_word.calls a0_1 64 true _ A47.out).mono ?_); rintro e w53 ⟨rfl, hb⟩; have n0_ := Aside0.mk (blk_below (g := gb154) (o := .cells #[.int .i64 a0_0, .string a0_1, .slice A0_2 l0_2.length c0_2, .slice A0_3 l0_3.length c0_3, .string a0_4, .string a0_5] 24 (0, 0)) (by (with_reducible repeat (first | refine blk_drewN ?_ _ | refine blk_drew ?_ | refine blk_alloc ?_ _)); exact BK154.out) hb); have n1_ := Aside0.mk (below_step (by repeat (first | (with_reducible first | exact HB.out | apply below_alloc | apply pw_below_drewN | apply below_drew1 | refine below_set ?_ GE154.out) | exact HB.out)) hb); clear BK154; clear HB; have BK154 := n0_; have HB := n1_; clear n0_ n1_; (try clear hb); (try clear hb2); (try clear hk); (try clear hi)))
                  go_ret
                  exact ⟨by first | rfl | (simp [errW_none, errW_some] <;> rfl) | (simp [*, errW_none, errW_some] <;> rfl), by repeat (first | (with_reducible first | exact HB.out | apply below_alloc | apply pw_below_drewN | apply below_drew1 | refine below_set ?_ GE154.out) | exact HB.out)⟩
              · replace c48 := Bool.eq_false_iff.mpr c48
                subst c48
                have H1 : (some 200) = some r := by rw [if_neg (show ¬ (false = true) by decide)] at H; exact H
                clear H
                have H := H1
                clear H1
                obtain rfl := Option.some.inj H
                obtain ⟨hcz54_0, hcz54_1, hcz54_2, hcz54_3, hcz54_4, hcz54_5, hfz54_0, hfz54_1, hfz54_2, hfz54_3, hfz54_4, hfz54_5⟩ := blk_all6 (w := wc) BK154.out
                go_wp2_with (first | ((with_reducible refine gate_callee (f := 26) rfl ?_); refine goesL_ (some 24) rfl rfl Tryd.func26 (by kernel_rfl) rfl #[.string a0_4] rfl (by (try simp only [List.map_toArray, List.map_cons, List.map_nil]); first | done | rfl | (simp only [List.length_drop, List.length_take]; rfl)) ?_; (with_reducible refine (sha_IsId.calls a0_4 false _ A17.out).mono ?_); rintro e w' ⟨rfl, ⟨nd, rfl⟩⟩; refine ⟨_, rfl, ?_⟩) | (go_at_call 27; (with_reducible refine (snap_word.calls a0_1 64 false _ A47.out).mono ?_); rintro e w55 ⟨rfl, hb⟩; have n0_ := Aside0.mk (blk_below (g := gb154) (o := .cells #[.int .i64 a0_0, .string a0_1, .slice A0_2 l0_2.length c0_2, .slice A0_3 l0_3.length c0_3, .string a0_4, .string a0_5] 24 (0, 0)) (by (with_reducible repeat (first | refine blk_drewN ?_ _ | refine blk_drew ?_ | refine blk_alloc ?_ _)); exact BK154.out) hb); have n1_ := Aside0.mk (below_step (by repeat (first | (with_reducible first | exact HB.out | apply below_alloc | apply pw_below_drewN | apply below_drew1 | refine below_set ?_ GE154.out) | exact HB.out)) hb); clear BK154; clear HB; have BK154 := n0_; have HB := n1_; clear n0_ n1_; (try clear hb); (try clear hb2); (try clear hk); (try clear hi)))
                go_ret
                exact ⟨by first | rfl | (simp [errW_none, errW_some] <;> rfl) | (simp [*, errW_none, errW_some] <;> rfl), by repeat (first | (with_reducible first | exact HB.out | apply below_alloc | apply pw_below_drewN | apply below_drew1 | refine below_set ?_ GE154.out) | exact HB.out)⟩
            · replace c46 := Bool.eq_false_iff.mpr c46
              subst c46
              have H1 : (some 200) = some r := by rw [if_neg (show ¬ (false = true) by decide)] at H; exact H
              clear H
              have H := H1
              clear H1
              obtain rfl := Option.some.inj H
              obtain ⟨hcz56_0, hcz56_1, hcz56_2, hcz56_3, hcz56_4, hcz56_5, hfz56_0, hfz56_1, hfz56_2, hfz56_3, hfz56_4, hfz56_5⟩ := blk_all6 (w := wc) BK154.out
              go_wp2_with (first | ((with_reducible refine gate_callee (f := 26) rfl ?_); refine goesL_ (some 24) rfl rfl Tryd.func26 (by kernel_rfl) rfl #[.string a0_4] rfl (by (try simp only [List.map_toArray, List.map_cons, List.map_nil]); first | done | rfl | (simp only [List.length_drop, List.length_take]; rfl)) ?_; (with_reducible refine (sha_IsId.calls a0_4 false _ A17.out).mono ?_); rintro e w' ⟨rfl, ⟨nd, rfl⟩⟩; refine ⟨_, rfl, ?_⟩))
              go_ret
              exact ⟨by first | rfl | (simp [errW_none, errW_some] <;> rfl) | (simp [*, errW_none, errW_some] <;> rfl), by repeat (first | (with_reducible first | exact HB.out | apply below_alloc | apply pw_below_drewN | apply below_drew1 | refine below_set ?_ GE154.out) | exact HB.out)⟩

/-! ### num_Short: function 58 -/
def num_Short.l0 : Nat → Int → List Int → Option (ByteArray × Int)
  | 0, _, _ => none
  | k + 1, x0, x4 => if x0 ≥ 128 then (if x4.length < 140737488355328 then (num_Short.l0 k (x0 / 128) (x4 ++ [Go.bits .or .u8 ((x0) % 256) 128])) else (none)) else (if x4.length < 140737488355328 then (some (strOfNums (x4 ++ [(x0) % 256]), 0)) else (none))
def num_Short.f (k : Nat) (a0 : Int) : Option (ByteArray × Int) := if a0 < 0 then (some ((⟨#[]⟩ : ByteArray), 1)) else (num_Short.l0 k a0 ([] : List Int))
theorem num_Short.mono_l : ∀ k, (∀ y0 y1, LeO (num_Short.l0 k y0 y1) (num_Short.l0 (k + 1) y0 y1))
  | 0 => fun _ _ r h => by simp [num_Short.l0] at h
  | k + 1 => by
    have ih0 := num_Short.mono_l k
    · intro y0 y1
      unfold num_Short.l0
      repeat' first
      | (with_reducible exact ih0 _ _)
      | (with_reducible exact LeO.refl _)
      | (with_reducible exact LeO.none _)
      | (with_reducible refine LeO.ite ?_ ?_)
      | (with_reducible refine LeO.bind ?_ (fun _ => ?_))
      | exact ih0 _ _
      | exact LeO.none _
      | refine LeO.ite ?_ ?_
      | refine LeO.bind ?_ (fun _ => ?_)
theorem num_Short.mono : ∀ a0 k, LeO (num_Short.f k a0) (num_Short.f (k + 1) a0) := by
  intro a0 k
  have ih0 := num_Short.mono_l k
  unfold num_Short.f
  repeat' first
      | (with_reducible exact ih0 _ _)
      | (with_reducible exact LeO.refl _)
      | (with_reducible exact LeO.none _)
      | (with_reducible refine LeO.ite ?_ ?_)
      | (with_reducible refine LeO.bind ?_ (fun _ => ?_))
      | exact ih0 _ _
      | exact LeO.none _
      | refine LeO.ite ?_ ?_
      | refine LeO.bind ?_ (fun _ => ?_)
set_option maxHeartbeats 8000000 in
set_option maxRecDepth 100000 in
theorem num_Short.calls (k : Nat) (a0 : Int) (r1 : ByteArray) (r2 : Int) (w : World) (h : num_Short.f k a0 = some (r1, r2)) :
    Calls Tryd.prog 58 #[.int .i64 a0] w fun e w' => e = .returned (.tuple #[.string r1, .int .i64 r2]) ∧ Below w.heap.size w w' := by
  have HB := Aside0.mk (Below.refl w.heap.size w)
  have H : (if a0 < 0 then (some ((⟨#[]⟩ : ByteArray), 1)) else (num_Short.l0 k a0 ([] : List Int))) = some (r1, r2) := h
  clear h
  by_cases c2 : a0 < 0
  · rw [if_pos c2] at H
    have c2b0 : decide (a0 < 0) = true := decide_eq_true c2
    clear c2
    simp only [Option.some.injEq, Prod.mk.injEq] at H
    obtain ⟨rfl, rfl⟩ := H
    go_enter Tryd.func58, Tryd.ntmps58
    go_wp2
    go_ret2
    exact ⟨by first | rfl | (simp [errW_none, errW_some] <;> rfl) | (simp [*, errW_none, errW_some] <;> rfl), by repeat (first | (with_reducible first | exact HB.out | apply below_alloc | apply pw_below_drewN | apply below_drew1) | exact HB.out)⟩
  · rw [if_neg c2] at H
    have c2b0 : decide (a0 < 0) = false := decide_eq_false c2
    clear c2
    have H' := Aside0.mk H
    clear H
    go_enter Tryd.func58, Tryd.ntmps58
    go_wp2
    go_loopg [0, 4] k (fun kq v0 v4 w' => ∃ (x0_1 : Int) (x4_1 : List Int), v0 = .int .i64 x0_1 ∧ Aside0 (num_Short.l0 kq x0_1 x4_1 = some (r1, r2)) ∧ Aside0 (kq ≤ k) ∧ Aside0 (Kd.R (Kd.int .u8) 5 w' w.heap.size (fun _ => True) v4 x4_1) ∧ Aside0 (Below w.heap.size w w'))
    case atStart => exact ⟨(a0), (([] : List Int)), (by first | rfl | (simp; done) | (simp [*]; done) | (simp; exact (by decide : ∀ p q : Bool, (p == q) = (!(p != q))) _ _) | (simp; exact (by decide : ∀ p q : Bool, (!(p != q)) = (p == q)) _ _)), H', ⟨Nat.le_refl _⟩, ⟨by first | exact Kd.R_nil _ _ _ _ _ | exact Kd.N_nil _ _ _ _ _ | exact Kd.V_nil _ _ _ _ _ | exact Kd.Q_nil _ _ _ _ _ | exact Kd.S_nil _ _ _ _ _⟩, ⟨by repeat (first | (with_reducible first | exact HB.out | apply below_alloc | apply pw_below_drewN | apply below_drew1) | exact HB.out)⟩⟩
    case round =>
      clear H'
      try clear c2
      try clear c2b0
      try clear p2
      obtain ⟨x0_1, x4_1, rfl, HA, HK1, HO_4, HB⟩ := hrel
      cases gk with
      | zero => exact absurd HA.out (by simp [num_Short.l0])
      | succ k1 =>
        have H := HA.out
        clear HA
        simp only [num_Short.l0] at H
        by_cases c3 : x0_1 ≥ 128
        · rw [if_pos c3] at H
          have c3b0 : decide (128 ≤ x0_1) = true := decide_eq_true c3
          clear c3
          by_cases c4 : x4_1.length < 140737488355328
          · rw [if_pos c4] at H
            have LMc4 := Aside0.mk c4
            clear c4
            obtain ⟨y162, hy162⟩ : ∃ y_ : List Int, y_ = (x4_1 ++ [Go.bits .or .u8 ((x0_1) % 256) 128]) := ⟨_, rfl⟩
            replace H : (num_Short.l0 k1 (x0_1 / 128) y162) = some (r1, r2) := by first | (rw [hy162]; with_reducible exact H) | (have H2_ := (Option.bind_some _ _).symm.trans H; rw [hy162]; with_reducible exact H2_) | (have H2_ := (Option.bind_some _ _).symm.trans H; with_reducible exact H2_) | with_reducible exact H | (rw [hy162]; exact H) | exact H
            have Ny162 := Aside0.mk hy162
            clear hy162
            have H' := Aside0.mk H
            clear H
            go_wp2_with (first | ((with_reducible refine gate_builtin (b := .append) (xs := #[.tmp 11, .tmp 15]) rfl ?_); at_builtin; refine Kd.R_append (Kd.int .u8) (w0 := w) w.heap.size rfl (.tmp 11) (.tmp 15) 66 5 (.int .u8 0) 1 rfl Tryd.underlying66 info5 rfl (by decide) (by omega) u4 x4_1 (Go.bits .or .u8 ((x0_1) % 256) 128) [.int .u8 (Go.bits .or .u8 ((x0_1) % 256) 128)] (fun _ => True) (fun _ => False) rfl rfl ?aP (fun _ hk => hk.elim) ?aF ?aO ?aB ?aS ?aL ?_; (case aP => exact rfl); (case aB => exact (by repeat (first | (with_reducible first | exact HB.out | apply below_alloc | apply pw_below_drewN | apply below_drew1) | exact HB.out))); (case aF => exact (fun _ _ => trivial)); (case aO => exact (by (with_reducible repeat (first | apply Kd.R_alloc | apply Kd.R_drewN | apply Kd.R_drew)); exact HO_4.out)); (case aS => exact (below_size (by repeat (first | (with_reducible first | exact HB.out | apply below_alloc | apply pw_below_drewN | apply below_drew1) | exact HB.out)))); (case aL => have := LMc4.out; omega); intro v163 w5 ho hb hg hat; rw [← Ny162.out] at ho; have n0_ := Aside0.mk (hb); have n1_ := Aside0.mk (ho); clear HB; clear HO_4; have HB := n0_; have HO164 := n1_; clear n0_ n1_; clear ho hb hg hat))
            go_roundg k1
            case measure => have := HK1.out; omega
            case rel => exact ⟨(x0_1 / 128), (y162), (by first | rfl | (simp; done) | (simp [*]; done) | (simp; exact (by decide : ∀ p q : Bool, (p == q) = (!(p != q))) _ _) | (simp; exact (by decide : ∀ p q : Bool, (!(p != q)) = (p == q)) _ _)), H', ⟨by have := HK1.out; omega⟩, ⟨by (with_reducible repeat (first | apply Kd.R_alloc | apply Kd.R_drewN | apply Kd.R_drew)); exact HO164.out⟩, ⟨by repeat (first | (with_reducible first | exact HB.out | apply below_alloc | apply pw_below_drewN | apply below_drew1) | exact HB.out)⟩⟩
          · rw [if_neg c4] at H
            exact absurd H (by simp)
        · rw [if_neg c3] at H
          have c3b0 : decide (128 ≤ x0_1) = false := decide_eq_false c3
          clear c3
          by_cases c6 : x4_1.length < 140737488355328
          · rw [if_pos c6] at H
            have LMc6 := Aside0.mk c6
            clear c6
            obtain ⟨y165, hy165⟩ : ∃ y_ : List Int, y_ = (x4_1 ++ [(x0_1) % 256]) := ⟨_, rfl⟩
            replace H : (some (strOfNums y165, 0)) = some (r1, r2) := by first | (rw [hy165]; with_reducible exact H) | (have H2_ := (Option.bind_some _ _).symm.trans H; rw [hy165]; with_reducible exact H2_) | (have H2_ := (Option.bind_some _ _).symm.trans H; with_reducible exact H2_) | with_reducible exact H | (rw [hy165]; exact H) | exact H
            have Ny165 := Aside0.mk hy165
            clear hy165
            simp only [Option.some.injEq, Prod.mk.injEq] at H
            obtain ⟨rfl, rfl⟩ := H
            go_wp2_with (first | ((with_reducible refine gate_builtin (b := .append) (xs := #[.tmp 17, .tmp 20]) rfl ?_); at_builtin; refine Kd.R_append (Kd.int .u8) (w0 := w) w.heap.size rfl (.tmp 17) (.tmp 20) 66 5 (.int .u8 0) 1 rfl Tryd.underlying66 info5 rfl (by decide) (by omega) u4 x4_1 ((x0_1) % 256) [.int .u8 ((x0_1) % 256)] (fun _ => True) (fun _ => False) rfl rfl ?aP (fun _ hk => hk.elim) ?aF ?aO ?aB ?aS ?aL ?_; (case aP => exact rfl); (case aB => exact (by repeat (first | (with_reducible first | exact HB.out | apply below_alloc | apply pw_below_drewN | apply below_drew1) | exact HB.out))); (case aF => exact (fun _ _ => trivial)); (case aO => exact (by (with_reducible repeat (first | apply Kd.R_alloc | apply Kd.R_drewN | apply Kd.R_drew)); exact HO_4.out)); (case aS => exact (below_size (by repeat (first | (with_reducible first | exact HB.out | apply below_alloc | apply pw_below_drewN | apply below_drew1) | exact HB.out)))); (case aL => have := LMc6.out; omega); intro v166 w7 ho hb hg hat; rw [← Ny165.out] at ho; have n0_ := Aside0.mk (hb); have n1_ := Aside0.mk (ho); clear HB; clear HO_4; have HB := n0_; have HO167 := n1_; clear n0_ n1_; clear ho hb hg hat; have hcv8 := own_string (P := Tryd.prog) Tryd.underlying66 Tryd.underlying5 Tryd.underlying9 (Kd.own_of_R HO167.out)))
            go_ret2
            exact ⟨by first | rfl | (simp [errW_none, errW_some] <;> rfl) | (simp [*, errW_none, errW_some] <;> rfl), by repeat (first | (with_reducible first | exact HB.out | apply below_alloc | apply pw_below_drewN | apply below_drew1) | exact HB.out)⟩
          · rw [if_neg c6] at H
            exact absurd H (by simp)

end Go.Proofs.YtfihbohdhcidbaaDoor.QSnpB
