import Derived.WalkSmall
section
/- The pieces of a sort that merges within a row of whole numbers: plain. -/
set_option linter.unusedVariables false
namespace Go.Proofs.YtcmajhdgaeploaaDoor.Stab
/-- The number at a place. -/
def g (xs : List Int) (k : Nat) : Int := xs.getD k 0
theorem g_get {xs : List Int} {k : Nat} (h : k < xs.length) : g xs k = xs[k] := by simp [g, List.getD_eq_getElem?_getD, h]
/-- Two places' numbers change places. -/
def sw (xs : List Int) (i j : Nat) : List Int := (xs.set i (g xs j)).set j (g xs i)
theorem sw_perm {xs : List Int} {i j : Nat} (hi : i < xs.length) (hj : j < xs.length) : (sw xs i j).Perm xs := by
  unfold sw
  rw [g_get hi, g_get hj]
  exact List.set_set_perm hi hj
theorem g_set {xs : List Int} {i : Nat} (v : Int) (hi : i < xs.length) (k : Nat) : g (xs.set i v) k = if k = i then v else g xs k := by
  unfold g
  rw [List.getD_eq_getElem?_getD, List.getD_eq_getElem?_getD, List.getElem?_set]
  by_cases h : i = k
  · subst h
    rw [if_pos rfl, if_pos hi, if_pos rfl]
    rfl
  · rw [if_neg h, if_neg (fun e => h e.symm)]
theorem g_sw {xs : List Int} {i j : Nat} (hi : i < xs.length) (hj : j < xs.length) (k : Nat) : g (sw xs i j) k = if k = j then g xs i else if k = i then g xs j else g xs k := by
  unfold sw
  rw [g_set _ (by simpa using hj), g_set _ hi]
/-- ys has xs's numbers between a and b in some order; all else stays. -/
structure Shuf (a b : Nat) (xs ys : List Int) : Prop where
  perm : ys.Perm xs
  out : ∀ k, k < a ∨ b ≤ k → g ys k = g xs k
  mem : ∀ k, a ≤ k → k < b → ∃ j, a ≤ j ∧ j < b ∧ g ys k = g xs j
theorem Shuf.len {a b : Nat} {xs ys : List Int} (h : Shuf a b xs ys) : ys.length = xs.length := h.perm.length_eq
theorem Shuf.refl (a b : Nat) (xs : List Int) : Shuf a b xs xs := ⟨List.Perm.refl _, fun _ _ => rfl, fun k h1 h2 => ⟨k, h1, h2, rfl⟩⟩
theorem Shuf.trans {a b : Nat} {xs ys zs : List Int} (h1 : Shuf a b xs ys) (h2 : Shuf a b ys zs) : Shuf a b xs zs :=
  ⟨h2.perm.trans h1.perm, fun k hk => (h2.out k hk).trans (h1.out k hk), fun k ha hb => by
    obtain ⟨j, j1, j2, e⟩ := h2.mem k ha hb
    obtain ⟨q, q1, q2, e2⟩ := h1.mem j j1 j2
    exact ⟨q, q1, q2, e.trans e2⟩⟩
theorem Shuf.wide {a b a' b' : Nat} {xs ys : List Int} (h : Shuf a b xs ys) (ha : a' ≤ a) (hb : b ≤ b') : Shuf a' b' xs ys :=
  ⟨h.perm, fun k hk => h.out k (by omega), fun k h1 h2 => by
    by_cases hk : a ≤ k ∧ k < b
    · obtain ⟨j, j1, j2, e⟩ := h.mem k hk.1 hk.2
      exact ⟨j, by omega, by omega, e⟩
    · exact ⟨k, h1, h2, h.out k (by omega)⟩⟩
theorem Shuf.swap {a b : Nat} {xs : List Int} {i j : Nat} (hi : a ≤ i) (hib : i < b) (hj : a ≤ j) (hjb : j < b) (hb : b ≤ xs.length) : Shuf a b xs (sw xs i j) := by
  refine ⟨sw_perm (by omega) (by omega), fun k hk => ?_, fun k h1 h2 => ?_⟩
  · rw [g_sw (by omega) (by omega), if_neg (by omega), if_neg (by omega)]
  · rw [g_sw (by omega) (by omega)]
    by_cases e1 : k = j
    · rw [if_pos e1]; exact ⟨i, hi, hib, rfl⟩
    · rw [if_neg e1]
      by_cases e2 : k = i
      · rw [if_pos e2]; exact ⟨j, hj, hjb, rfl⟩
      · rw [if_neg e2]; exact ⟨k, h1, h2, rfl⟩
/-- A comparison that is an order. -/
structure Nice (o : Int → Int → Int) : Prop where
  asym : ∀ x y, o x y < 0 → ¬ o y x < 0
  tr : ∀ x y z, ¬ o y x < 0 → ¬ o z y < 0 → ¬ o z x < 0
theorem Nice.refl {o : Int → Int → Int} (h : Nice o) (x : Int) : ¬ o x x < 0 := fun e => h.asym x x e e
theorem Nice.le_lt {o : Int → Int → Int} (h : Nice o) {x y z : Int} (h1 : ¬ o y x < 0) (h2 : o y z < 0) : o x z < 0 := Classical.byContradiction fun e => h.tr z x y e h1 h2
/-- In order between a and b. -/
def Srt (o : Int → Int → Int) (a b : Nat) (xs : List Int) : Prop := ∀ i j, a ≤ i → i < j → j < b → ¬ o (g xs j) (g xs i) < 0
theorem Srt.le {o : Int → Int → Int} (hn : Nice o) {a b : Nat} {xs : List Int} (h : Srt o a b xs) {i j : Nat} (h1 : a ≤ i) (h2 : i ≤ j) (h3 : j < b) : ¬ o (g xs j) (g xs i) < 0 := by
  rcases Nat.lt_or_ge i j with h4 | h4
  · exact h i j h1 h4 h3
  · obtain rfl : i = j := by omega
    exact hn.refl _
theorem Srt.narrow {o : Int → Int → Int} {a b a' b' : Nat} {xs : List Int} (h : Srt o a b xs) (h1 : a ≤ a') (h2 : b' ≤ b) : Srt o a' b' xs := fun i j p q r => h i j (by omega) q (by omega)
theorem Srt.same {o : Int → Int → Int} {a b : Nat} {xs ys : List Int} (h : Srt o a b xs) (he : ∀ k, a ≤ k → k < b → g ys k = g xs k) : Srt o a b ys := fun i j p q r => by
  rw [he i p (by omega), he j (by omega) r]
  exact h i j p q r
theorem Srt.one (o : Int → Int → Int) {a b : Nat} (h : b ≤ a + 1) (xs : List Int) : Srt o a b xs := fun i j p q r => by omega
/-- Two neighbours in order, the first's members not behind the second's. -/
theorem Srt.join {o : Int → Int → Int} {a m b : Nat} {xs : List Int} (h1 : Srt o a m xs) (h2 : Srt o m b xs) (h : ∀ i j, a ≤ i → i < m → m ≤ j → j < b → ¬ o (g xs j) (g xs i) < 0) : Srt o a b xs := fun i j p q r => by
  by_cases hi : j < m
  · exact h1 i j p q hi
  · by_cases hj : m ≤ i
    · exact h2 i j hj q r
    · exact h i j p (by omega) (by omega) r
/-- The state of an insertion: all between a and i + 1 in order, but for the one at j, which is behind none of those behind it. -/
structure Ins (o : Int → Int → Int) (a i j : Nat) (xs : List Int) : Prop where
  rest : ∀ p q, a ≤ p → p < q → q ≤ i → p ≠ j → q ≠ j → ¬ o (g xs q) (g xs p) < 0
  behind : ∀ q, j < q → q ≤ i → ¬ o (g xs q) (g xs j) < 0
theorem Ins.begin_ {o : Int → Int → Int} {a i : Nat} {xs : List Int} (h : Srt o a i xs) : Ins o a i i xs :=
  ⟨fun p q h1 h2 h3 h4 h5 => h p q h1 h2 (by omega), fun q h1 h2 => by omega⟩
theorem Ins.done {o : Int → Int → Int} (hn : Nice o) {a i j : Nat} {xs : List Int} (h : Ins o a i j xs) (hj : a ≤ j) (hs : j = a ∨ ¬ o (g xs j) (g xs (j - 1)) < 0) : Srt o a (i + 1) xs := fun p q h1 h2 h3 => by
  by_cases hp : p = j
  · subst hp
    exact h.behind q h2 (by omega)
  · by_cases hq : q = j
    · subst hq
      rcases hs with rfl | hs
      · omega
      · by_cases e : p = q - 1
        · subst e; exact hs
        · exact hn.tr _ (g xs (q - 1)) _ (h.rest p (q - 1) h1 (by omega) (by omega) (by omega) (by omega)) hs
    · exact h.rest p q h1 h2 (by omega) hp hq
theorem Ins.step {o : Int → Int → Int} (hn : Nice o) {a i j : Nat} {xs : List Int} (h : Ins o a i j xs) (hj : a < j) (hji : j ≤ i) (hl : i < xs.length) (hs : o (g xs j) (g xs (j - 1)) < 0) : Ins o a i (j - 1) (sw xs j (j - 1)) := by
  have e : ∀ k, g (sw xs j (j - 1)) k = if k = j - 1 then g xs j else if k = j then g xs (j - 1) else g xs k := fun k => g_sw (by omega) (by omega) k
  refine ⟨fun p q h1 h2 h3 h4 h5 => ?_, fun q h1 h2 => ?_⟩
  · rw [e p, e q, if_neg h4, if_neg h5]
    by_cases hp : p = j
    · subst hp
      rw [if_pos rfl, if_neg (by omega)]
      exact h.rest (p - 1) q (by omega) (by omega) h3 (by omega) (by omega)
    · rw [if_neg hp]
      by_cases hq : q = j
      · subst hq
        rw [if_pos rfl]
        exact h.rest p (q - 1) h1 (by omega) (by omega) (by omega) (by omega)
      · rw [if_neg hq]
        exact h.rest p q h1 h2 h3 hp hq
  · rw [e q, e (j - 1), if_pos rfl, if_neg (by omega)]
    by_cases hq : q = j
    · subst hq
      rw [if_pos rfl]
      exact hn.asym _ _ hs
    · rw [if_neg hq]
      exact h.behind q (by omega) h2
/-- The first i of two stretches have changed places. -/
structure SwR (a b i : Nat) (xs ys : List Int) : Prop where
  perm : ys.Perm xs
  val : ∀ k, g ys k = if a ≤ k ∧ k < a + i then g xs (k - a + b) else if b ≤ k ∧ k < b + i then g xs (k - b + a) else g xs k
theorem SwR.len {a b i : Nat} {xs ys : List Int} (h : SwR a b i xs ys) : ys.length = xs.length := h.perm.length_eq
theorem SwR.begin_ (a b : Nat) (xs : List Int) : SwR a b 0 xs xs := ⟨List.Perm.refl _, fun k => by rw [if_neg (by omega), if_neg (by omega)]⟩
theorem SwR.step {a b i n : Nat} {xs ys : List Int} (h : SwR a b i xs ys) (hab : a + n ≤ b) (hb : b + n ≤ xs.length) (hi : i < n) : SwR a b (i + 1) xs (sw ys (a + i) (b + i)) := by
  have hl := h.len
  refine ⟨(sw_perm (by omega) (by omega)).trans h.perm, fun k => ?_⟩
  rw [g_sw (by omega) (by omega), h.val, h.val, h.val]
  by_cases e1 : k = b + i
  · subst e1
    rw [if_pos rfl, if_neg (by omega), if_neg (by omega), if_neg (by omega), if_pos (by omega)]
    congr 1
    omega
  · rw [if_neg e1]
    by_cases e2 : k = a + i
    · subst e2
      rw [if_pos rfl, if_neg (by omega), if_neg (by omega), if_pos (by omega)]
      congr 1
      omega
    · rw [if_neg e2]
      by_cases e3 : a ≤ k ∧ k < a + i
      · rw [if_pos e3, if_pos (by omega)]
      · rw [if_neg e3, if_neg (show ¬ (a ≤ k ∧ k < a + (i + 1)) by omega)]
        by_cases e4 : b ≤ k ∧ k < b + i
        · rw [if_pos e4, if_pos (by omega)]
        · rw [if_neg e4, if_neg (by omega)]
/-- What stands at a place when two neighbours have changed places. -/
def tgt (a m b : Nat) (xs : List Int) (k : Nat) : Int := if k < a + (b - m) then g xs (k + (m - a)) else g xs (k - (b - m))
/-- The state of a rotation: i and j are still to change places at m. -/
structure Rot (a m b : Nat) (xs ys : List Int) (i j : Nat) : Prop where
  perm : ys.Perm xs
  out : ∀ k, k < a ∨ b ≤ k → g ys k = g xs k
  hi : i ≤ m - a
  hj : j ≤ b - m
  fin1 : ∀ k, a ≤ k → k < m - i → g ys k = tgt a m b xs k
  fin2 : ∀ k, m + j ≤ k → k < b → g ys k = tgt a m b xs k
  rem1 : ∀ t, t < j → tgt a m b xs (m - i + t) = g ys (m + t)
  rem2 : ∀ t, t < i → tgt a m b xs (m - i + j + t) = g ys (m - i + t)
theorem Rot.begin_ {a m b : Nat} (xs : List Int) (h1 : a ≤ m) (h2 : m ≤ b) : Rot a m b xs xs (m - a) (b - m) where
  perm := List.Perm.refl _
  out := fun _ _ => rfl
  hi := Nat.le_refl _
  hj := Nat.le_refl _
  fin1 := fun k p q => by omega
  fin2 := fun k p q => by omega
  rem1 := fun t ht => by unfold tgt; rw [if_pos (by omega)]; congr 1; omega
  rem2 := fun t ht => by unfold tgt; rw [if_neg (by omega)]; congr 1; omega
theorem Rot.more {a m b : Nat} {xs ys zs : List Int} {i j : Nat} (h : Rot a m b xs ys i j) (hm1 : a ≤ m) (hm2 : m ≤ b) (hij : j < i) (hs : SwR (m - i) m j ys zs) : Rot a m b xs zs (i - j) j := by
  have h1 := h.hi; have h2 := h.hj
  refine ⟨hs.perm.trans h.perm, fun k hk => ?_, by omega, h2, fun k p q => ?_, fun k p q => ?_, fun t ht => ?_, fun t ht => ?_⟩
  · rw [hs.val, if_neg (by omega), if_neg (by omega)]; exact h.out k hk
  · rw [hs.val]
    by_cases e : m - i ≤ k ∧ k < m - i + j
    · rw [if_pos e]
      have := h.rem1 (k - (m - i)) (by omega)
      rw [show m - i + (k - (m - i)) = k by omega] at this
      rw [this]; congr 1; omega
    · rw [if_neg e, if_neg (by omega)]; exact h.fin1 k p (by omega)
  · rw [hs.val, if_neg (by omega), if_neg (by omega)]; exact h.fin2 k p q
  · rw [hs.val, if_neg (by omega), if_pos (by omega)]
    have := h.rem2 t (by omega)
    rw [show m - (i - j) + t = m - i + j + t by omega, this]; congr 1; omega
  · rw [hs.val, if_neg (by omega), if_neg (by omega)]
    have := h.rem2 (j + t) (by omega)
    rw [show m - (i - j) + j + t = m - i + j + (j + t) by omega, this]; congr 1; omega
theorem Rot.less {a m b : Nat} {xs ys zs : List Int} {i j : Nat} (h : Rot a m b xs ys i j) (hm1 : a ≤ m) (hm2 : m ≤ b) (hij : i < j) (hs : SwR (m - i) (m + j - i) i ys zs) : Rot a m b xs zs i (j - i) := by
  have h1 := h.hi; have h2 := h.hj
  refine ⟨hs.perm.trans h.perm, fun k hk => ?_, h1, by omega, fun k p q => ?_, fun k p q => ?_, fun t ht => ?_, fun t ht => ?_⟩
  · rw [hs.val, if_neg (by omega), if_neg (by omega)]; exact h.out k hk
  · rw [hs.val, if_neg (by omega), if_neg (by omega)]; exact h.fin1 k p q
  · rw [hs.val, if_neg (by omega)]
    by_cases e : m + j - i ≤ k ∧ k < m + j - i + i
    · rw [if_pos e]
      have := h.rem2 (k - (m + j - i)) (by omega)
      rw [show m - i + j + (k - (m + j - i)) = k by omega] at this
      rw [this]; congr 1; omega
    · rw [if_neg e]; exact h.fin2 k (by omega) q
  · rw [hs.val, if_neg (by omega), if_neg (by omega)]; exact h.rem1 t (by omega)
  · rw [hs.val, if_pos (by omega)]
    have := h.rem2 (j - i + t - (j - i)) (by omega)
    have e3 := h.rem1 (j - i + t) (by omega)
    rw [show m - i + (j - i) + t = m - i + (j - i + t) by omega, e3]
    congr 1; omega
theorem Rot.done {a m b : Nat} {xs ys zs : List Int} {i : Nat} (h : Rot a m b xs ys i i) (hm1 : a ≤ m) (hm2 : m ≤ b) (hs : SwR (m - i) m i ys zs) : zs.Perm xs ∧ (∀ k, k < a ∨ b ≤ k → g zs k = g xs k) ∧ ∀ k, a ≤ k → k < b → g zs k = tgt a m b xs k := by
  have h1 := h.hi; have h2 := h.hj
  refine ⟨hs.perm.trans h.perm, fun k hk => ?_, fun k p q => ?_⟩
  · rw [hs.val, if_neg (by omega), if_neg (by omega)]; exact h.out k hk
  · rw [hs.val]
    by_cases e : m - i ≤ k ∧ k < m - i + i
    · rw [if_pos e]
      have := h.rem1 (k - (m - i)) (by omega)
      rw [show m - i + (k - (m - i)) = k by omega] at this
      rw [this]; congr 1; omega
    · rw [if_neg e]
      by_cases e2 : m ≤ k ∧ k < m + i
      · rw [if_pos e2]
        have := h.rem2 (k - m) (by omega)
        rw [show m - i + i + (k - m) = k by omega] at this
        rw [this]; congr 1; omega
      · rw [if_neg e2]
        by_cases e3 : k < m - i
        · exact h.fin1 k p e3
        · exact h.fin2 k (by omega) q
/-- Two neighbours have changed places. -/
structure Rotd (a m b : Nat) (xs ys : List Int) : Prop where
  perm : ys.Perm xs
  out : ∀ k, k < a ∨ b ≤ k → g ys k = g xs k
  val : ∀ k, a ≤ k → k < b → g ys k = tgt a m b xs k
theorem Rotd.shuf {a m b : Nat} {xs ys : List Int} (h : Rotd a m b xs ys) (h1 : a ≤ m) (h2 : m ≤ b) : Shuf a b xs ys :=
  ⟨h.perm, h.out, fun k p q => by
    rw [h.val k p q]
    unfold tgt
    split
    · exact ⟨_, by omega, by omega, rfl⟩
    · exact ⟨_, by omega, by omega, rfl⟩⟩
end Go.Proofs.YtcmajhdgaeploaaDoor.Stab
end

section
/- A merge within a row: what is sought, what is turned, and that it comes out in order: plain. -/
set_option linter.unusedVariables false
namespace Go.Proofs.YtcmajhdgaeploaaDoor.Stab
/-- A search by halves: all ahead of i have the property, none from j on. -/
structure Sch (P : Nat → Prop) (lo hi i j : Nat) : Prop where
  yes : ∀ k, lo ≤ k → k < i → P k
  no : ∀ k, j ≤ k → k < hi → ¬ P k
def Down (P : Nat → Prop) (lo hi : Nat) : Prop := ∀ k h, lo ≤ k → k ≤ h → h < hi → P h → P k
theorem Sch.begin_ (P : Nat → Prop) (lo hi : Nat) : Sch P lo hi lo hi := ⟨fun k _ _ => by omega, fun k _ _ => by omega⟩
theorem Sch.up {P : Nat → Prop} {lo hi i j h : Nat} (s : Sch P lo hi i j) (d : Down P lo hi) (hh : h < hi) (hp : P h) : Sch P lo hi (h + 1) j :=
  ⟨fun k h1 h2 => d k h h1 (by omega) hh hp, s.no⟩
theorem Sch.down {P : Nat → Prop} {lo hi i j h : Nat} (s : Sch P lo hi i j) (d : Down P lo hi) (hh : lo ≤ h) (hp : ¬ P h) : Sch P lo hi i h :=
  ⟨s.yes, fun k h1 h2 hk => hp (d h k hh h1 h2 hk)⟩
/-- One ahead of others in order: those that stand ahead of it. -/
theorem down_a {o : Int → Int → Int} (hn : Nice o) {m b : Nat} {xs : List Int} (h : Srt o m b xs) (v : Int) : Down (fun k => o (g xs k) v < 0) m b := fun k q h1 h2 h3 hp => hn.le_lt (h.le hn h1 h2 h3) hp
/-- One behind others in order: those that it is not ahead of. -/
theorem down_b {o : Int → Int → Int} (hn : Nice o) {a m : Nat} {xs : List Int} (h : Srt o a m xs) (v : Int) : Down (fun k => ¬ o v (g xs k) < 0) a m := fun k q h1 h2 h3 hp => hn.tr _ _ _ (h.le hn h1 h2 h3) hp
/-- The number at a has come to k. -/
structure Mv (a k : Nat) (xs ys : List Int) : Prop where
  perm : ys.Perm xs
  val : ∀ t, g ys t = if a ≤ t ∧ t < k then g xs (t + 1) else if t = k then g xs a else g xs t
theorem Mv.begin_ (a : Nat) (xs : List Int) : Mv a a xs xs := ⟨List.Perm.refl _, fun t => by
  rw [if_neg (by omega)]
  split
  · rename_i e; rw [e]
  · rfl⟩
theorem Mv.step {a k : Nat} {xs ys : List Int} (h : Mv a k xs ys) (ha : a ≤ k) (hk : k + 1 < xs.length) : Mv a (k + 1) xs (sw ys k (k + 1)) := by
  have hl := h.perm.length_eq
  refine ⟨(sw_perm (by omega) (by omega)).trans h.perm, fun t => ?_⟩
  rw [g_sw (by omega) (by omega), h.val, h.val, h.val]
  by_cases e1 : t = k + 1
  · rw [if_pos e1, if_neg (by omega), if_pos rfl, if_neg (by omega), if_pos e1]
  · rw [if_neg e1]
    by_cases e2 : t = k
    · subst e2
      rw [if_pos rfl, if_neg (by omega), if_neg (by omega), if_pos (by omega)]
    · rw [if_neg e2]
      by_cases e3 : a ≤ t ∧ t < k
      · rw [if_pos e3, if_pos (by omega)]
      · rw [if_neg e3, if_neg (show ¬ (t = k) from e2), if_neg (by omega), if_neg e1]
/-- The number at m has come to k. -/
structure Mw (m k : Nat) (xs ys : List Int) : Prop where
  perm : ys.Perm xs
  val : ∀ t, g ys t = if k < t ∧ t ≤ m then g xs (t - 1) else if t = k then g xs m else g xs t
theorem Mw.begin_ (m : Nat) (xs : List Int) : Mw m m xs xs := ⟨List.Perm.refl _, fun t => by
  rw [if_neg (by omega)]
  split
  · rename_i e; rw [e]
  · rfl⟩
theorem Mw.step {m k : Nat} {xs ys : List Int} (h : Mw m k xs ys) (h0 : 0 < k) (ha : k ≤ m) (hk : m < xs.length) : Mw m (k - 1) xs (sw ys k (k - 1)) := by
  have hl := h.perm.length_eq
  refine ⟨(sw_perm (by omega) (by omega)).trans h.perm, fun t => ?_⟩
  rw [g_sw (by omega) (by omega), h.val, h.val, h.val]
  by_cases e1 : t = k - 1
  · rw [if_pos e1, if_neg (by omega), if_pos rfl, if_neg (by omega), if_pos e1]
  · rw [if_neg e1]
    by_cases e2 : t = k
    · subst e2
      rw [if_pos rfl, if_neg (by omega), if_neg (by omega), if_pos (by omega)]
    · rw [if_neg e2]
      by_cases e3 : k < t ∧ t ≤ m
      · rw [if_pos e3, if_pos (by omega)]
      · rw [if_neg e3, if_neg (show ¬ (t = k) from e2), if_neg (by omega), if_neg e1]
/-- What a merge makes. -/
structure Mrg (o : Int → Int → Int) (a b : Nat) (xs ys : List Int) : Prop where
  sh : Shuf a b xs ys
  srt : Srt o a b ys
theorem merge_a {o : Int → Int → Int} (hn : Nice o) {a b i : Nat} {xs ys : List Int} (hs : Srt o (a + 1) b xs) (hi : a + 1 ≤ i) (hib : i ≤ b) (hc : Sch (fun k => o (g xs k) (g xs a) < 0) (a + 1) b i i) (hm : Mv a (i - 1) xs ys) : Mrg o a b xs ys := by
  refine ⟨⟨hm.perm, fun k hk => ?_, fun k p q => ?_⟩, ?_⟩
  · rw [hm.val, if_neg (by omega), if_neg (by omega)]
  · rw [hm.val]
    split
    · exact ⟨k + 1, by omega, by omega, rfl⟩
    · split
      · exact ⟨a, by omega, by omega, rfl⟩
      · exact ⟨k, p, q, rfl⟩
  · refine Srt.join (m := i - 1) (fun p q h1 h2 h3 => ?_) (Srt.join (m := i) (Srt.one o (by omega) _) (fun p q h1 h2 h3 => ?_) (fun p q h1 h2 h3 h4 => ?_)) (fun p q h1 h2 h3 h4 => ?_)
    · rw [hm.val p, hm.val q, if_pos (by omega), if_pos (by omega)]
      exact hs (p + 1) (q + 1) (by omega) (by omega) (by omega)
    · rw [hm.val p, hm.val q, if_neg (by omega), if_neg (by omega), if_neg (by omega), if_neg (by omega)]
      exact hs p q (by omega) h2 h3
    · obtain rfl : p = i - 1 := by omega
      rw [hm.val (i - 1), hm.val q, if_neg (by omega), if_pos rfl, if_neg (by omega), if_neg (by omega)]
      exact hc.no q h3 h4
    · rw [hm.val p, if_pos (by omega)]
      by_cases e : q = i - 1
      · subst e
        rw [hm.val (i - 1), if_neg (by omega), if_pos rfl]
        exact hn.asym _ _ (hc.yes (p + 1) (by omega) (by omega))
      · rw [hm.val q, if_neg (by omega), if_neg e]
        exact hs (p + 1) q (by omega) (by omega) h4
theorem merge_b {o : Int → Int → Int} (hn : Nice o) {a m i : Nat} {xs ys : List Int} (hs : Srt o a m xs) (hi : a ≤ i) (him : i ≤ m) (hc : Sch (fun k => ¬ o (g xs m) (g xs k) < 0) a m i i) (hm : Mw m i xs ys) : Mrg o a (m + 1) xs ys := by
  refine ⟨⟨hm.perm, fun k hk => ?_, fun k p q => ?_⟩, ?_⟩
  · rw [hm.val, if_neg (by omega), if_neg (by omega)]
  · rw [hm.val]
    split
    · exact ⟨k - 1, by omega, by omega, rfl⟩
    · split
      · exact ⟨m, by omega, by omega, rfl⟩
      · exact ⟨k, p, q, rfl⟩
  · refine Srt.join (m := i) (fun p q h1 h2 h3 => ?_) (Srt.join (m := i + 1) (Srt.one o (by omega) _) (fun p q h1 h2 h3 => ?_) (fun p q h1 h2 h3 h4 => ?_)) (fun p q h1 h2 h3 h4 => ?_)
    · rw [hm.val p, hm.val q, if_neg (by omega), if_neg (by omega), if_neg (by omega), if_neg (by omega)]
      exact hs p q h1 h2 (by omega)
    · rw [hm.val p, hm.val q, if_pos (by omega), if_pos (by omega)]
      exact hs (p - 1) (q - 1) (by omega) (by omega) (by omega)
    · obtain rfl : p = i := by omega
      rw [hm.val p, hm.val q, if_pos (by omega), if_neg (by omega), if_pos rfl]
      exact hn.asym _ _ (Classical.byContradiction fun e => hc.no (q - 1) (by omega) (by omega) e)
    · rw [hm.val p, if_neg (by omega), if_neg (by omega)]
      by_cases e : q = i
      · subst e
        rw [hm.val q, if_neg (by omega), if_pos rfl]
        exact hc.yes p h1 h2
      · rw [hm.val q, if_pos (by omega)]
        exact hs p (q - 1) h1 (by omega) (by omega)
/-- The numbers of a cut: where the search goes. -/
def lo0 (a m b : Nat) : Nat := if m > (a + b) / 2 then (a + b) / 2 + m - b else a
def hi0 (a m b : Nat) : Nat := if m > (a + b) / 2 then (a + b) / 2 else m
theorem lohi (a m b : Nat) (h1 : a < m) (h2 : m < b) : a ≤ lo0 a m b ∧ lo0 a m b ≤ hi0 a m b ∧ hi0 a m b ≤ m ∧ hi0 a m b ≤ (a + b) / 2 ∧ (a + b) / 2 + m - b ≤ lo0 a m b ∧ (a + b) / 2 + m ≤ lo0 a m b + b := by
  unfold lo0 hi0
  split <;> omega
theorem down_m {o : Int → Int → Int} (hn : Nice o) {a m b : Nat} {xs : List Int} (h1 : a < m) (h2 : m < b) (hx : Srt o a m xs) (hy : Srt o m b xs) : Down (fun c => ¬ o (g xs ((a + b) / 2 + m - 1 - c)) (g xs c) < 0) (lo0 a m b) (hi0 a m b) := fun k h p q r hp => by
  obtain ⟨z1, z2, z3, z4, z5, z6⟩ := lohi a m b h1 h2
  have hr : (a + b) / 2 + m - 1 - h ≥ m := by
    unfold hi0 at r
    split at r <;> omega
  exact hn.tr _ (g xs h) _ (hx.le hn (by omega) q (by omega)) (hn.tr _ (g xs ((a + b) / 2 + m - 1 - h)) _ hp (hy.le hn hr (by omega) (by omega)))
/-- Behind the search and the turn: s is where it was cut. -/
structure Cut (o : Int → Int → Int) (a s mid e b : Nat) (xs ys : List Int) : Prop where
  sh : Shuf a b xs ys
  s1 : Srt o a s ys
  s2 : Srt o s mid ys
  s3 : Srt o mid e ys
  s4 : Srt o e b ys
  cross : ∀ p q, a ≤ p → p < mid → mid ≤ q → q < b → ¬ o (g ys q) (g ys p) < 0
theorem cut_made {o : Int → Int → Int} (hn : Nice o) {a m b s : Nat} {xs ys : List Int} (h1 : a < m) (h2 : m < b) (hx : Srt o a m xs) (hy : Srt o m b xs) (hs1 : lo0 a m b ≤ s) (hs2 : s ≤ hi0 a m b)
    (hc : Sch (fun c => ¬ o (g xs ((a + b) / 2 + m - 1 - c)) (g xs c) < 0) (lo0 a m b) (hi0 a m b) s s) (hr : Rotd s m ((a + b) / 2 + m - s) xs ys) : Cut o a s ((a + b) / 2) ((a + b) / 2 + m - s) b xs ys := by
  obtain ⟨z1, z2, z3, z4, z5, z6⟩ := lohi a m b h1 h2
  have y1 : s ≤ m := by omega
  have y2 : m ≤ (a + b) / 2 + m - s := by omega
  have y3 : (a + b) / 2 + m - s ≤ b := by omega
  have v1 : ∀ k, a ≤ k → k < s → g ys k = g xs k := fun k _ hk => hr.out k (.inl hk)
  have v2 : ∀ k, s ≤ k → k < (a + b) / 2 → g ys k = g xs (k + (m - s)) := fun k p q => by rw [hr.val k p (by omega)]; unfold tgt; rw [if_pos (by omega)]
  have v3 : ∀ k, (a + b) / 2 ≤ k → k < (a + b) / 2 + m - s → g ys k = g xs (k - ((a + b) / 2 - s)) := fun k p q => by
    rw [hr.val k (by omega) q]; unfold tgt; rw [if_neg (by omega)]; congr 1; omega
  have v4 : ∀ k, (a + b) / 2 + m - s ≤ k → k < b → g ys k = g xs k := fun k p _ => hr.out k (.inr p)
  have c1 : s < m → m < (a + b) / 2 + m - s → ¬ o (g xs s) (g xs ((a + b) / 2 + m - s - 1)) < 0 := fun q1 q2 => by
    have hs : s < hi0 a m b := by unfold hi0; unfold hi0 at hs2; split at hs2 <;> split <;> omega
    have := hc.no s (Nat.le_refl _) hs
    rw [show (a + b) / 2 + m - 1 - s = (a + b) / 2 + m - s - 1 by omega] at this
    exact hn.asym _ _ (Classical.byContradiction this)
  have c2 : a < s → (a + b) / 2 + m - s < b → ¬ o (g xs ((a + b) / 2 + m - s)) (g xs (s - 1)) < 0 := fun q1 q2 => by
    have hs : lo0 a m b ≤ s - 1 := by unfold lo0; unfold lo0 at hs1; split at hs1 <;> split <;> omega
    have := hc.yes (s - 1) hs (by omega)
    rw [show (a + b) / 2 + m - 1 - (s - 1) = (a + b) / 2 + m - s by omega] at this
    exact this
  refine ⟨(hr.shuf y1 y2).wide (by omega) y3, (hx.narrow (Nat.le_refl _) y1).same v1, fun p q p1 p2 p3 => ?_, fun p q p1 p2 p3 => ?_, fun p q p1 p2 p3 => ?_, fun p q p1 p2 p3 p4 => ?_⟩
  · rw [v2 p p1 (by omega), v2 q (by omega) p3]
    exact hy _ _ (by omega) (by omega) (by omega)
  · rw [v3 p p1 (by omega), v3 q (by omega) p3]
    exact hx _ _ (by omega) (by omega) (by omega)
  · rw [v4 p p1 (by omega), v4 q (by omega) p3]
    exact hy _ _ (by omega) (by omega) (by omega)
  · by_cases e1 : p < s
    · rw [v1 p p1 e1]
      by_cases e2 : q < (a + b) / 2 + m - s
      · rw [v3 q p3 e2]
        exact hx _ _ p1 (by omega) (by omega)
      · rw [v4 q (by omega) p4]
        exact hn.tr _ (g xs (s - 1)) _ (hx.le hn p1 (by omega) (by omega)) (hn.tr _ (g xs ((a + b) / 2 + m - s)) _ (c2 (by omega) (by omega)) (hy.le hn y2 (by omega) p4))
    · rw [v2 p (by omega) p2]
      by_cases e2 : q < (a + b) / 2 + m - s
      · rw [v3 q p3 e2]
        exact hn.tr _ (g xs ((a + b) / 2 + m - s - 1)) _ (hy.le hn (by omega) (by omega) (by omega)) (hn.tr _ (g xs s) _ (c1 (by omega) (by omega)) (hx.le hn (by omega) (by omega) (by omega)))
      · rw [v4 q (by omega) p4]
        exact hy _ _ (by omega) (by omega) p4
/-- Both halves merged, it is merged. -/
theorem Cut.whole {o : Int → Int → Int} (hn : Nice o) {a s mid e b : Nat} {xs ys zs us : List Int} (h : Cut o a s mid e b xs ys) (h1 : a ≤ mid) (h2 : mid ≤ b) (hz : Mrg o a mid ys zs) (hu : Mrg o mid b zs us) : Mrg o a b xs us := by
  refine ⟨(h.sh.trans (hz.sh.wide (Nat.le_refl _) h2)).trans (hu.sh.wide h1 (Nat.le_refl _)), Srt.join (m := mid) (hz.srt.same fun k p q => hu.sh.out k (.inl q)) hu.srt fun p q p1 p2 p3 p4 => ?_⟩
  obtain ⟨q', q1, q2, e1⟩ := hu.sh.mem q p3 p4
  obtain ⟨p', r1, r2, e2⟩ := hz.sh.mem p p1 p2
  rw [e1, hz.sh.out q' (.inr q1), hu.sh.out p (.inl p2), e2]
  exact h.cross p' q' r1 r2 q1 q2
/-- The second half stays as it was while the first is merged. -/
theorem Cut.second {o : Int → Int → Int} {a s mid e b : Nat} {xs ys zs : List Int} (h : Cut o a s mid e b xs ys) (hz : Shuf a mid ys zs) : Srt o mid e zs ∧ Srt o e b zs ∨ e < mid := by
  by_cases he : e < mid
  · exact .inr he
  · exact .inl ⟨h.s3.same fun k p q => hz.out k (.inr p), h.s4.same fun k p q => hz.out k (.inr (by omega))⟩
/-- Nothing is to be merged where one side is empty. -/
theorem Mrg.left {o : Int → Int → Int} {a s mid : Nat} {ys : List Int} (s1 : Srt o a s ys) (s2 : Srt o s mid ys) (h : ¬ (a < s ∧ s < mid)) (hs : s ≤ mid) (ha : a ≤ s) : Mrg o a mid ys ys :=
  ⟨Shuf.refl _ _ _, by
    by_cases e : a < s
    · obtain rfl : s = mid := by omega
      exact s1
    · obtain rfl : a = s := by omega
      exact s2⟩
end Go.Proofs.YtcmajhdgaeploaaDoor.Stab
end

section
/- Blocks of a row in order, and blocks of twice their length: plain. -/
namespace Go.Proofs.YtcmajhdgaeploaaDoor.Stab
set_option linter.unusedVariables false
/-- All blocks of bs numbers, from the one numbered f on, are in order. -/
def Blk (o : Int → Int → Int) (bs n f : Nat) (xs : List Int) : Prop := ∀ q, f ≤ q → Srt o (q * bs) (min ((q + 1) * bs) n) xs
/-- All blocks ahead of the one numbered f are in order. -/
def Pre (o : Int → Int → Int) (bs f : Nat) (xs : List Int) : Prop := ∀ q, q < f → Srt o (q * bs) ((q + 1) * bs) xs
theorem mul_le_of_lt {q f bs : Nat} (h : q < f) : (q + 1) * bs ≤ f * bs := Nat.mul_le_mul_right _ h
theorem Pre.step {o : Int → Int → Int} {bs f : Nat} {xs ys : List Int} (h : Pre o bs f xs) (hm : Mrg o (f * bs) ((f + 1) * bs) xs ys) : Pre o bs (f + 1) ys := fun q hq => by
  by_cases e : q = f
  · subst e; exact hm.srt
  · have := mul_le_of_lt (bs := bs) (show q < f by omega)
    exact (h q (by omega)).same fun k _ h2 => hm.sh.out k (.inl (by omega))
theorem Pre.whole {o : Int → Int → Int} {bs f n : Nat} {xs ys : List Int} (h : Pre o bs f xs) (hn : n < (f + 1) * bs) (hm : Mrg o (f * bs) n xs ys) : Blk o bs n 0 ys := fun q _ => by
  by_cases e : q < f
  · have := mul_le_of_lt (bs := bs) e
    exact ((h q e).same fun k _ h2 => hm.sh.out k (.inl (by omega))).narrow (Nat.le_refl _) (Nat.min_le_left _ _)
  · by_cases e2 : q = f
    · subst e2
      exact hm.srt.narrow (Nat.le_refl _) (Nat.min_le_right _ _)
    · have := mul_le_of_lt (bs := bs) (show f < q by omega)
      exact Srt.one o (by have := Nat.min_le_right ((q + 1) * bs) n; omega) _
theorem Blk.whole {o : Int → Int → Int} {bs n : Nat} {xs : List Int} (h : Blk o bs n 0 xs) (hn : n ≤ bs) : Srt o 0 n xs := by
  have := h 0 (Nat.le_refl _)
  rw [Nat.zero_mul, Nat.zero_add, Nat.one_mul, Nat.min_eq_right hn] at this
  exact this
theorem dbl (q bs : Nat) : (2 * q) * bs = q * (2 * bs) := by rw [Nat.mul_comm 2 q, Nat.mul_assoc]
theorem suc (q bs : Nat) : (q + 1) * bs = q * bs + bs := Nat.succ_mul q bs
/-- Two blocks that are to be merged. -/
theorem Blk.two {o : Int → Int → Int} {bs n f : Nat} {xs : List Int} (h : Blk o bs n (2 * f) xs) : Srt o (f * (2 * bs)) (min (f * (2 * bs) + bs) n) xs ∧ Srt o (f * (2 * bs) + bs) (min (f * (2 * bs) + 2 * bs) n) xs := by
  have h1 := h (2 * f) (Nat.le_refl _)
  have h2 := h (2 * f + 1) (by omega)
  rw [suc (2 * f) bs, dbl] at h1
  rw [suc (2 * f + 1) bs, suc (2 * f) bs, dbl, show f * (2 * bs) + bs + bs = f * (2 * bs) + 2 * bs by omega] at h2
  exact ⟨h1, h2⟩
theorem Blk.step {o : Int → Int → Int} {bs n f : Nat} {xs ys : List Int} (h : Blk o bs n (2 * f) xs) (hm : Mrg o (f * (2 * bs)) ((f + 1) * (2 * bs)) xs ys) : Blk o bs n (2 * (f + 1)) ys := fun q hq => by
  have h1 : (2 * (f + 1)) * bs ≤ q * bs := Nat.mul_le_mul_right _ hq
  rw [dbl] at h1
  exact (h q (by omega)).same fun k h2 _ => hm.sh.out k (.inr (by omega))
/-- Where nothing more is to be merged, the blocks are of twice the length. -/
theorem double {o : Int → Int → Int} {bs n f : Nat} {xs : List Int} (h : Pre o (2 * bs) f xs) (hn : n < (f + 1) * (2 * bs)) (hs : Srt o (f * (2 * bs)) n xs) : Blk o (2 * bs) n 0 xs := fun q _ => by
  by_cases e : q < f
  · exact (h q e).narrow (Nat.le_refl _) (Nat.min_le_left _ _)
  · by_cases e2 : q = f
    · subst e2
      exact hs.narrow (Nat.le_refl _) (Nat.min_le_right _ _)
    · have := mul_le_of_lt (bs := 2 * bs) (show f < q by omega)
      exact Srt.one o (by have := Nat.min_le_right ((q + 1) * (2 * bs)) n; omega) _
theorem Pre.last {o : Int → Int → Int} {bs f n : Nat} {xs ys : List Int} (h : Pre o bs f xs) (hm : Mrg o (f * bs) n xs ys) : Pre o bs f ys := fun q hq => by
  have := mul_le_of_lt (bs := bs) hq
  exact (h q hq).same fun k _ h2 => hm.sh.out k (.inl (by omega))
end Go.Proofs.YtcmajhdgaeploaaDoor.Stab
end

