/- The pieces of a sort that merges within a row of whole numbers: plain. -/
import Derived.WalkSmall
set_option linter.unusedVariables false
namespace Go.Proofs.YtcmajhdgaeploaaDoor.Stab
/-- The number at a place. -/
def g (xs : List Int) (k : Nat) : Int := xs.getD k 0
theorem g_get {xs : List Int} {k : Nat} (h : k < xs.length) : g xs k = xs[k] := by simp [g, List.getD_eq_getElem?_getD, h]
/-- Two places' numbers change places. -/
def sw (xs : List Int) (i j : Nat) : List Int := (xs.set i (g xs j)).set j (g xs i)
theorem sw_perm {xs : List Int} {i j : Nat} (hi : i < xs.length) (hj : j < xs.length) : (sw xs i j).Perm xs := by
  unfold sw
  rw [g_get hi, g_get hj]
  exact List.set_set_perm hi hj
theorem g_set {xs : List Int} {i : Nat} (v : Int) (hi : i < xs.length) (k : Nat) : g (xs.set i v) k = if k = i then v else g xs k := by
  unfold g
  rw [List.getD_eq_getElem?_getD, List.getD_eq_getElem?_getD, List.getElem?_set]
  by_cases h : i = k
  · subst h
    rw [if_pos rfl, if_pos hi, if_pos rfl]
    rfl
  · rw [if_neg h, if_neg (fun e => h e.symm)]
theorem g_sw {xs : List Int} {i j : Nat} (hi : i < xs.length) (hj : j < xs.length) (k : Nat) : g (sw xs i j) k = if k = j then g xs i else if k = i then g xs j else g xs k := by
  unfold sw
  rw [g_set _ (by simpa using hj), g_set _ hi]
/-- ys has xs's numbers between a and b in some order; all else stays. -/
structure Shuf (a b : Nat) (xs ys : List Int) : Prop where
  perm : ys.Perm xs
  out : ∀ k, k < a ∨ b ≤ k → g ys k = g xs k
  mem : ∀ k, a ≤ k → k < b → ∃ j, a ≤ j ∧ j < b ∧ g ys k = g xs j
theorem Shuf.len {a b : Nat} {xs ys : List Int} (h : Shuf a b xs ys) : ys.length = xs.length := h.perm.length_eq
theorem Shuf.refl (a b : Nat) (xs : List Int) : Shuf a b xs xs := ⟨List.Perm.refl _, fun _ _ => rfl, fun k h1 h2 => ⟨k, h1, h2, rfl⟩⟩
theorem Shuf.trans {a b : Nat} {xs ys zs : List Int} (h1 : Shuf a b xs ys) (h2 : Shuf a b ys zs) : Shuf a b xs zs :=
  ⟨h2.perm.trans h1.perm, fun k hk => (h2.out k hk).trans (h1.out k hk), fun k ha hb => by
    obtain ⟨j, j1, j2, e⟩ := h2.mem k ha hb
    obtain ⟨q, q1, q2, e2⟩ := h1.mem j j1 j2
    exact ⟨q, q1, q2, e.trans e2⟩⟩
theorem Shuf.wide {a b a' b' : Nat} {xs ys : List Int} (h : Shuf a b xs ys) (ha : a' ≤ a) (hb : b ≤ b') : Shuf a' b' xs ys :=
  ⟨h.perm, fun k hk => h.out k (by omega), fun k h1 h2 => by
    by_cases hk : a ≤ k ∧ k < b
    · obtain ⟨j, j1, j2, e⟩ := h.mem k hk.1 hk.2
      exact ⟨j, by omega, by omega, e⟩
    · exact ⟨k, h1, h2, h.out k (by omega)⟩⟩
theorem Shuf.swap {a b : Nat} {xs : List Int} {i j : Nat} (hi : a ≤ i) (hib : i < b) (hj : a ≤ j) (hjb : j < b) (hb : b ≤ xs.length) : Shuf a b xs (sw xs i j) := by
  refine ⟨sw_perm (by omega) (by omega), fun k hk => ?_, fun k h1 h2 => ?_⟩
  · rw [g_sw (by omega) (by omega), if_neg (by omega), if_neg (by omega)]
  · rw [g_sw (by omega) (by omega)]
    by_cases e1 : k = j
    · rw [if_pos e1]; exact ⟨i, hi, hib, rfl⟩
    · rw [if_neg e1]
      by_cases e2 : k = i
      · rw [if_pos e2]; exact ⟨j, hj, hjb, rfl⟩
      · rw [if_neg e2]; exact ⟨k, h1, h2, rfl⟩
/-- A comparison that is an order. -/
structure Nice (o : Int → Int → Int) : Prop where
  asym : ∀ x y, o x y < 0 → ¬ o y x < 0
  tr : ∀ x y z, ¬ o y x < 0 → ¬ o z y < 0 → ¬ o z x < 0
theorem Nice.refl {o : Int → Int → Int} (h : Nice o) (x : Int) : ¬ o x x < 0 := fun e => h.asym x x e e
theorem Nice.le_lt {o : Int → Int → Int} (h : Nice o) {x y z : Int} (h1 : ¬ o y x < 0) (h2 : o y z < 0) : o x z < 0 := Classical.byContradiction fun e => h.tr z x y e h1 h2
/-- In order between a and b. -/
def Srt (o : Int → Int → Int) (a b : Nat) (xs : List Int) : Prop := ∀ i j, a ≤ i → i < j → j < b → ¬ o (g xs j) (g xs i) < 0
theorem Srt.le {o : Int → Int → Int} (hn : Nice o) {a b : Nat} {xs : List Int} (h : Srt o a b xs) {i j : Nat} (h1 : a ≤ i) (h2 : i ≤ j) (h3 : j < b) : ¬ o (g xs j) (g xs i) < 0 := by
  rcases Nat.lt_or_ge i j with h4 | h4
  · exact h i j h1 h4 h3
  · obtain rfl : i = j := by omega
    exact hn.refl _
theorem Srt.narrow {o : Int → Int → Int} {a b a' b' : Nat} {xs : List Int} (h : Srt o a b xs) (h1 : a ≤ a') (h2 : b' ≤ b) : Srt o a' b' xs := fun i j p q r => h i j (by omega) q (by omega)
theorem Srt.same {o : Int → Int → Int} {a b : Nat} {xs ys : List Int} (h : Srt o a b xs) (he : ∀ k, a ≤ k → k < b → g ys k = g xs k) : Srt o a b ys := fun i j p q r => by
  rw [he i p (by omega), he j (by omega) r]
  exact h i j p q r
theorem Srt.one (o : Int → Int → Int) {a b : Nat} (h : b ≤ a + 1) (xs : List Int) : Srt o a b xs := fun i j p q r => by omega
/-- Two neighbours in order, the first's members not behind the second's. -/
theorem Srt.join {o : Int → Int → Int} {a m b : Nat} {xs : List Int} (h1 : Srt o a m xs) (h2 : Srt o m b xs) (h : ∀ i j, a ≤ i → i < m → m ≤ j → j < b → ¬ o (g xs j) (g xs i) < 0) : Srt o a b xs := fun i j p q r => by
  by_cases hi : j < m
  · exact h1 i j p q hi
  · by_cases hj : m ≤ i
    · exact h2 i j hj q r
    · exact h i j p (by omega) (by omega) r
/-- The state of an insertion: all between a and i + 1 in order, but for the one at j, which is behind none of those behind it. -/
structure Ins (o : Int → Int → Int) (a i j : Nat) (xs : List Int) : Prop where
  rest : ∀ p q, a ≤ p → p < q → q ≤ i → p ≠ j → q ≠ j → ¬ o (g xs q) (g xs p) < 0
  behind : ∀ q, j < q → q ≤ i → ¬ o (g xs q) (g xs j) < 0
theorem Ins.begin_ {o : Int → Int → Int} {a i : Nat} {xs : List Int} (h : Srt o a i xs) : Ins o a i i xs :=
  ⟨fun p q h1 h2 h3 h4 h5 => h p q h1 h2 (by omega), fun q h1 h2 => by omega⟩
theorem Ins.done {o : Int → Int → Int} (hn : Nice o) {a i j : Nat} {xs : List Int} (h : Ins o a i j xs) (hj : a ≤ j) (hs : j = a ∨ ¬ o (g xs j) (g xs (j - 1)) < 0) : Srt o a (i + 1) xs := fun p q h1 h2 h3 => by
  by_cases hp : p = j
  · subst hp
    exact h.behind q h2 (by omega)
  · by_cases hq : q = j
    · subst hq
      rcases hs with rfl | hs
      · omega
      · by_cases e : p = q - 1
        · subst e; exact hs
        · exact hn.tr _ (g xs (q - 1)) _ (h.rest p (q - 1) h1 (by omega) (by omega) (by omega) (by omega)) hs
    · exact h.rest p q h1 h2 (by omega) hp hq
theorem Ins.step {o : Int → Int → Int} (hn : Nice o) {a i j : Nat} {xs : List Int} (h : Ins o a i j xs) (hj : a < j) (hji : j ≤ i) (hl : i < xs.length) (hs : o (g xs j) (g xs (j - 1)) < 0) : Ins o a i (j - 1) (sw xs j (j - 1)) := by
  have e : ∀ k, g (sw xs j (j - 1)) k = if k = j - 1 then g xs j else if k = j then g xs (j - 1) else g xs k := fun k => g_sw (by omega) (by omega) k
  refine ⟨fun p q h1 h2 h3 h4 h5 => ?_, fun q h1 h2 => ?_⟩
  · rw [e p, e q, if_neg h4, if_neg h5]
    by_cases hp : p = j
    · subst hp
      rw [if_pos rfl, if_neg (by omega)]
      exact h.rest (p - 1) q (by omega) (by omega) h3 (by omega) (by omega)
    · rw [if_neg hp]
      by_cases hq : q = j
      · subst hq
        rw [if_pos rfl]
        exact h.rest p (q - 1) h1 (by omega) (by omega) (by omega) (by omega)
      · rw [if_neg hq]
        exact h.rest p q h1 h2 h3 hp hq
  · rw [e q, e (j - 1), if_pos rfl, if_neg (by omega)]
    by_cases hq : q = j
    · subst hq
      rw [if_pos rfl]
      exact hn.asym _ _ hs
    · rw [if_neg hq]
      exact h.behind q (by omega) h2
/-- The first i of two stretches have changed places. -/
structure SwR (a b i : Nat) (xs ys : List Int) : Prop where
  perm : ys.Perm xs
  val : ∀ k, g ys k = if a ≤ k ∧ k < a + i then g xs (k - a + b) else if b ≤ k ∧ k < b + i then g xs (k - b + a) else g xs k
theorem SwR.len {a b i : Nat} {xs ys : List Int} (h : SwR a b i xs ys) : ys.length = xs.length := h.perm.length_eq
theorem SwR.begin_ (a b : Nat) (xs : List Int) : SwR a b 0 xs xs := ⟨List.Perm.refl _, fun k => by rw [if_neg (by omega), if_neg (by omega)]⟩
theorem SwR.step {a b i n : Nat} {xs ys : List Int} (h : SwR a b i xs ys) (hab : a + n ≤ b) (hb : b + n ≤ xs.length) (hi : i < n) : SwR a b (i + 1) xs (sw ys (a + i) (b + i)) := by
  have hl := h.len
  refine ⟨(sw_perm (by omega) (by omega)).trans h.perm, fun k => ?_⟩
  rw [g_sw (by omega) (by omega), h.val, h.val, h.val]
  by_cases e1 : k = b + i
  · subst e1
    rw [if_pos rfl, if_neg (by omega), if_neg (by omega), if_neg (by omega), if_pos (by omega)]
    congr 1
    omega
  · rw [if_neg e1]
    by_cases e2 : k = a + i
    · subst e2
      rw [if_pos rfl, if_neg (by omega), if_neg (by omega), if_pos (by omega)]
      congr 1
      omega
    · rw [if_neg e2]
      by_cases e3 : a ≤ k ∧ k < a + i
      · rw [if_pos e3, if_pos (by omega)]
      · rw [if_neg e3, if_neg (show ¬ (a ≤ k ∧ k < a + (i + 1)) by omega)]
        by_cases e4 : b ≤ k ∧ k < b + i
        · rw [if_pos e4, if_pos (by omega)]
        · rw [if_neg e4, if_neg (by omega)]
/-- What stands at a place when two neighbours have changed places. -/
def tgt (a m b : Nat) (xs : List Int) (k : Nat) : Int := if k < a + (b - m) then g xs (k + (m - a)) else g xs (k - (b - m))
/-- The state of a rotation: i and j are still to change places at m. -/
structure Rot (a m b : Nat) (xs ys : List Int) (i j : Nat) : Prop where
  perm : ys.Perm xs
  out : ∀ k, k < a ∨ b ≤ k → g ys k = g xs k
  hi : i ≤ m - a
  hj : j ≤ b - m
  fin1 : ∀ k, a ≤ k → k < m - i → g ys k = tgt a m b xs k
  fin2 : ∀ k, m + j ≤ k → k < b → g ys k = tgt a m b xs k
  rem1 : ∀ t, t < j → tgt a m b xs (m - i + t) = g ys (m + t)
  rem2 : ∀ t, t < i → tgt a m b xs (m - i + j + t) = g ys (m - i + t)
theorem Rot.begin_ {a m b : Nat} (xs : List Int) (h1 : a ≤ m) (h2 : m ≤ b) : Rot a m b xs xs (m - a) (b - m) where
  perm := List.Perm.refl _
  out := fun _ _ => rfl
  hi := Nat.le_refl _
  hj := Nat.le_refl _
  fin1 := fun k p q => by omega
  fin2 := fun k p q => by omega
  rem1 := fun t ht => by unfold tgt; rw [if_pos (by omega)]; congr 1; omega
  rem2 := fun t ht => by unfold tgt; rw [if_neg (by omega)]; congr 1; omega
theorem Rot.more {a m b : Nat} {xs ys zs : List Int} {i j : Nat} (h : Rot a m b xs ys i j) (hm1 : a ≤ m) (hm2 : m ≤ b) (hij : j < i) (hs : SwR (m - i) m j ys zs) : Rot a m b xs zs (i - j) j := by
  have h1 := h.hi; have h2 := h.hj
  refine ⟨hs.perm.trans h.perm, fun k hk => ?_, by omega, h2, fun k p q => ?_, fun k p q => ?_, fun t ht => ?_, fun t ht => ?_⟩
  · rw [hs.val, if_neg (by omega), if_neg (by omega)]; exact h.out k hk
  · rw [hs.val]
    by_cases e : m - i ≤ k ∧ k < m - i + j
    · rw [if_pos e]
      have := h.rem1 (k - (m - i)) (by omega)
      rw [show m - i + (k - (m - i)) = k by omega] at this
      rw [this]; congr 1; omega
    · rw [if_neg e, if_neg (by omega)]; exact h.fin1 k p (by omega)
  · rw [hs.val, if_neg (by omega), if_neg (by omega)]; exact h.fin2 k p q
  · rw [hs.val, if_neg (by omega), if_pos (by omega)]
    have := h.rem2 t (by omega)
    rw [show m - (i - j) + t = m - i + j + t by omega, this]; congr 1; omega
  · rw [hs.val, if_neg (by omega), if_neg (by omega)]
    have := h.rem2 (j + t) (by omega)
    rw [show m - (i - j) + j + t = m - i + j + (j + t) by omega, this]; congr 1; omega
theorem Rot.less {a m b : Nat} {xs ys zs : List Int} {i j : Nat} (h : Rot a m b xs ys i j) (hm1 : a ≤ m) (hm2 : m ≤ b) (hij : i < j) (hs : SwR (m - i) (m + j - i) i ys zs) : Rot a m b xs zs i (j - i) := by
  have h1 := h.hi; have h2 := h.hj
  refine ⟨hs.perm.trans h.perm, fun k hk => ?_, h1, by omega, fun k p q => ?_, fun k p q => ?_, fun t ht => ?_, fun t ht => ?_⟩
  · rw [hs.val, if_neg (by omega), if_neg (by omega)]; exact h.out k hk
  · rw [hs.val, if_neg (by omega), if_neg (by omega)]; exact h.fin1 k p q
  · rw [hs.val, if_neg (by omega)]
    by_cases e : m + j - i ≤ k ∧ k < m + j - i + i
    · rw [if_pos e]
      have := h.rem2 (k - (m + j - i)) (by omega)
      rw [show m - i + j + (k - (m + j - i)) = k by omega] at this
      rw [this]; congr 1; omega
    · rw [if_neg e]; exact h.fin2 k (by omega) q
  · rw [hs.val, if_neg (by omega), if_neg (by omega)]; exact h.rem1 t (by omega)
  · rw [hs.val, if_pos (by omega)]
    have := h.rem2 (j - i + t - (j - i)) (by omega)
    have e3 := h.rem1 (j - i + t) (by omega)
    rw [show m - i + (j - i) + t = m - i + (j - i + t) by omega, e3]
    congr 1; omega
theorem Rot.done {a m b : Nat} {xs ys zs : List Int} {i : Nat} (h : Rot a m b xs ys i i) (hm1 : a ≤ m) (hm2 : m ≤ b) (hs : SwR (m - i) m i ys zs) : zs.Perm xs ∧ (∀ k, k < a ∨ b ≤ k → g zs k = g xs k) ∧ ∀ k, a ≤ k → k < b → g zs k = tgt a m b xs k := by
  have h1 := h.hi; have h2 := h.hj
  refine ⟨hs.perm.trans h.perm, fun k hk => ?_, fun k p q => ?_⟩
  · rw [hs.val, if_neg (by omega), if_neg (by omega)]; exact h.out k hk
  · rw [hs.val]
    by_cases e : m - i ≤ k ∧ k < m - i + i
    · rw [if_pos e]
      have := h.rem1 (k - (m - i)) (by omega)
      rw [show m - i + (k - (m - i)) = k by omega] at this
      rw [this]; congr 1; omega
    · rw [if_neg e]
      by_cases e2 : m ≤ k ∧ k < m + i
      · rw [if_pos e2]
        have := h.rem2 (k - m) (by omega)
        rw [show m - i + i + (k - m) = k by omega] at this
        rw [this]; congr 1; omega
      · rw [if_neg e2]
        by_cases e3 : k < m - i
        · exact h.fin1 k p e3
        · exact h.fin2 k (by omega) q
/-- Two neighbours have changed places. -/
structure Rotd (a m b : Nat) (xs ys : List Int) : Prop where
  perm : ys.Perm xs
  out : ∀ k, k < a ∨ b ≤ k → g ys k = g xs k
  val : ∀ k, a ≤ k → k < b → g ys k = tgt a m b xs k
theorem Rotd.shuf {a m b : Nat} {xs ys : List Int} (h : Rotd a m b xs ys) (h1 : a ≤ m) (h2 : m ≤ b) : Shuf a b xs ys :=
  ⟨h.perm, h.out, fun k p q => by
    rw [h.val k p q]
    unfold tgt
    split
    · exact ⟨_, by omega, by omega, rfl⟩
    · exact ⟨_, by omega, by omega, rfl⟩⟩
end Go.Proofs.YtcmajhdgaeploaaDoor.Stab
