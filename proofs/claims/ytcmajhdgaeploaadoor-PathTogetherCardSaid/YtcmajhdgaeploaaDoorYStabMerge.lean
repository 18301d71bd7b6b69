/- A merge within a row: what is sought, what is turned, and that it comes out in order: plain. -/
import Derived.Test.YtcmajhdgaeploaaDoorYStabPlain
set_option linter.unusedVariables false
namespace Go.Proofs.YtcmajhdgaeploaaDoor.Stab
/-- A search by halves: all ahead of i have the property, none from j on. -/
structure Sch (P : Nat → Prop) (lo hi i j : Nat) : Prop where
  yes : ∀ k, lo ≤ k → k < i → P k
  no : ∀ k, j ≤ k → k < hi → ¬ P k
def Down (P : Nat → Prop) (lo hi : Nat) : Prop := ∀ k h, lo ≤ k → k ≤ h → h < hi → P h → P k
theorem Sch.begin_ (P : Nat → Prop) (lo hi : Nat) : Sch P lo hi lo hi := ⟨fun k _ _ => by omega, fun k _ _ => by omega⟩
theorem Sch.up {P : Nat → Prop} {lo hi i j h : Nat} (s : Sch P lo hi i j) (d : Down P lo hi) (hh : h < hi) (hp : P h) : Sch P lo hi (h + 1) j :=
  ⟨fun k h1 h2 => d k h h1 (by omega) hh hp, s.no⟩
theorem Sch.down {P : Nat → Prop} {lo hi i j h : Nat} (s : Sch P lo hi i j) (d : Down P lo hi) (hh : lo ≤ h) (hp : ¬ P h) : Sch P lo hi i h :=
  ⟨s.yes, fun k h1 h2 hk => hp (d h k hh h1 h2 hk)⟩
/-- One ahead of others in order: those that stand ahead of it. -/
theorem down_a {o : Int → Int → Int} (hn : Nice o) {m b : Nat} {xs : List Int} (h : Srt o m b xs) (v : Int) : Down (fun k => o (g xs k) v < 0) m b := fun k q h1 h2 h3 hp => hn.le_lt (h.le hn h1 h2 h3) hp
/-- One behind others in order: those that it is not ahead of. -/
theorem down_b {o : Int → Int → Int} (hn : Nice o) {a m : Nat} {xs : List Int} (h : Srt o a m xs) (v : Int) : Down (fun k => ¬ o v (g xs k) < 0) a m := fun k q h1 h2 h3 hp => hn.tr _ _ _ (h.le hn h1 h2 h3) hp
/-- The number at a has come to k. -/
structure Mv (a k : Nat) (xs ys : List Int) : Prop where
  perm : ys.Perm xs
  val : ∀ t, g ys t = if a ≤ t ∧ t < k then g xs (t + 1) else if t = k then g xs a else g xs t
theorem Mv.begin_ (a : Nat) (xs : List Int) : Mv a a xs xs := ⟨List.Perm.refl _, fun t => by
  rw [if_neg (by omega)]
  split
  · rename_i e; rw [e]
  · rfl⟩
theorem Mv.step {a k : Nat} {xs ys : List Int} (h : Mv a k xs ys) (ha : a ≤ k) (hk : k + 1 < xs.length) : Mv a (k + 1) xs (sw ys k (k + 1)) := by
  have hl := h.perm.length_eq
  refine ⟨(sw_perm (by omega) (by omega)).trans h.perm, fun t => ?_⟩
  rw [g_sw (by omega) (by omega), h.val, h.val, h.val]
  by_cases e1 : t = k + 1
  · rw [if_pos e1, if_neg (by omega), if_pos rfl, if_neg (by omega), if_pos e1]
  · rw [if_neg e1]
    by_cases e2 : t = k
    · subst e2
      rw [if_pos rfl, if_neg (by omega), if_neg (by omega), if_pos (by omega)]
    · rw [if_neg e2]
      by_cases e3 : a ≤ t ∧ t < k
      · rw [if_pos e3, if_pos (by omega)]
      · rw [if_neg e3, if_neg (show ¬ (t = k) from e2), if_neg (by omega), if_neg e1]
/-- The number at m has come to k. -/
structure Mw (m k : Nat) (xs ys : List Int) : Prop where
  perm : ys.Perm xs
  val : ∀ t, g ys t = if k < t ∧ t ≤ m then g xs (t - 1) else if t = k then g xs m else g xs t
theorem Mw.begin_ (m : Nat) (xs : List Int) : Mw m m xs xs := ⟨List.Perm.refl _, fun t => by
  rw [if_neg (by omega)]
  split
  · rename_i e; rw [e]
  · rfl⟩
theorem Mw.step {m k : Nat} {xs ys : List Int} (h : Mw m k xs ys) (h0 : 0 < k) (ha : k ≤ m) (hk : m < xs.length) : Mw m (k - 1) xs (sw ys k (k - 1)) := by
  have hl := h.perm.length_eq
  refine ⟨(sw_perm (by omega) (by omega)).trans h.perm, fun t => ?_⟩
  rw [g_sw (by omega) (by omega), h.val, h.val, h.val]
  by_cases e1 : t = k - 1
  · rw [if_pos e1, if_neg (by omega), if_pos rfl, if_neg (by omega), if_pos e1]
  · rw [if_neg e1]
    by_cases e2 : t = k
    · subst e2
      rw [if_pos rfl, if_neg (by omega), if_neg (by omega), if_pos (by omega)]
    · rw [if_neg e2]
      by_cases e3 : k < t ∧ t ≤ m
      · rw [if_pos e3, if_pos (by omega)]
      · rw [if_neg e3, if_neg (show ¬ (t = k) from e2), if_neg (by omega), if_neg e1]
/-- What a merge makes. -/
structure Mrg (o : Int → Int → Int) (a b : Nat) (xs ys : List Int) : Prop where
  sh : Shuf a b xs ys
  srt : Srt o a b ys
theorem merge_a {o : Int → Int → Int} (hn : Nice o) {a b i : Nat} {xs ys : List Int} (hs : Srt o (a + 1) b xs) (hi : a + 1 ≤ i) (hib : i ≤ b) (hc : Sch (fun k => o (g xs k) (g xs a) < 0) (a + 1) b i i) (hm : Mv a (i - 1) xs ys) : Mrg o a b xs ys := by
  refine ⟨⟨hm.perm, fun k hk => ?_, fun k p q => ?_⟩, ?_⟩
  · rw [hm.val, if_neg (by omega), if_neg (by omega)]
  · rw [hm.val]
    split
    · exact ⟨k + 1, by omega, by omega, rfl⟩
    · split
      · exact ⟨a, by omega, by omega, rfl⟩
      · exact ⟨k, p, q, rfl⟩
  · refine Srt.join (m := i - 1) (fun p q h1 h2 h3 => ?_) (Srt.join (m := i) (Srt.one o (by omega) _) (fun p q h1 h2 h3 => ?_) (fun p q h1 h2 h3 h4 => ?_)) (fun p q h1 h2 h3 h4 => ?_)
    · rw [hm.val p, hm.val q, if_pos (by omega), if_pos (by omega)]
      exact hs (p + 1) (q + 1) (by omega) (by omega) (by omega)
    · rw [hm.val p, hm.val q, if_neg (by omega), if_neg (by omega), if_neg (by omega), if_neg (by omega)]
      exact hs p q (by omega) h2 h3
    · obtain rfl : p = i - 1 := by omega
      rw [hm.val (i - 1), hm.val q, if_neg (by omega), if_pos rfl, if_neg (by omega), if_neg (by omega)]
      exact hc.no q h3 h4
    · rw [hm.val p, if_pos (by omega)]
      by_cases e : q = i - 1
      · subst e
        rw [hm.val (i - 1), if_neg (by omega), if_pos rfl]
        exact hn.asym _ _ (hc.yes (p + 1) (by omega) (by omega))
      · rw [hm.val q, if_neg (by omega), if_neg e]
        exact hs (p + 1) q (by omega) (by omega) h4
theorem merge_b {o : Int → Int → Int} (hn : Nice o) {a m i : Nat} {xs ys : List Int} (hs : Srt o a m xs) (hi : a ≤ i) (him : i ≤ m) (hc : Sch (fun k => ¬ o (g xs m) (g xs k) < 0) a m i i) (hm : Mw m i xs ys) : Mrg o a (m + 1) xs ys := by
  refine ⟨⟨hm.perm, fun k hk => ?_, fun k p q => ?_⟩, ?_⟩
  · rw [hm.val, if_neg (by omega), if_neg (by omega)]
  · rw [hm.val]
    split
    · exact ⟨k - 1, by omega, by omega, rfl⟩
    · split
      · exact ⟨m, by omega, by omega, rfl⟩
      · exact ⟨k, p, q, rfl⟩
  · refine Srt.join (m := i) (fun p q h1 h2 h3 => ?_) (Srt.join (m := i + 1) (Srt.one o (by omega) _) (fun p q h1 h2 h3 => ?_) (fun p q h1 h2 h3 h4 => ?_)) (fun p q h1 h2 h3 h4 => ?_)
    · rw [hm.val p, hm.val q, if_neg (by omega), if_neg (by omega), if_neg (by omega), if_neg (by omega)]
      exact hs p q h1 h2 (by omega)
    · rw [hm.val p, hm.val q, if_pos (by omega), if_pos (by omega)]
      exact hs (p - 1) (q - 1) (by omega) (by omega) (by omega)
    · obtain rfl : p = i := by omega
      rw [hm.val p, hm.val q, if_pos (by omega), if_neg (by omega), if_pos rfl]
      exact hn.asym _ _ (Classical.byContradiction fun e => hc.no (q - 1) (by omega) (by omega) e)
    · rw [hm.val p, if_neg (by omega), if_neg (by omega)]
      by_cases e : q = i
      · subst e
        rw [hm.val q, if_neg (by omega), if_pos rfl]
        exact hc.yes p h1 h2
      · rw [hm.val q, if_pos (by omega)]
        exact hs p (q - 1) h1 (by omega) (by omega)
/-- The numbers of a cut: where the search goes. -/
def lo0 (a m b : Nat) : Nat := if m > (a + b) / 2 then (a + b) / 2 + m - b else a
def hi0 (a m b : Nat) : Nat := if m > (a + b) / 2 then (a + b) / 2 else m
theorem lohi (a m b : Nat) (h1 : a < m) (h2 : m < b) : a ≤ lo0 a m b ∧ lo0 a m b ≤ hi0 a m b ∧ hi0 a m b ≤ m ∧ hi0 a m b ≤ (a + b) / 2 ∧ (a + b) / 2 + m - b ≤ lo0 a m b ∧ (a + b) / 2 + m ≤ lo0 a m b + b := by
  unfold lo0 hi0
  split <;> omega
theorem down_m {o : Int → Int → Int} (hn : Nice o) {a m b : Nat} {xs : List Int} (h1 : a < m) (h2 : m < b) (hx : Srt o a m xs) (hy : Srt o m b xs) : Down (fun c => ¬ o (g xs ((a + b) / 2 + m - 1 - c)) (g xs c) < 0) (lo0 a m b) (hi0 a m b) := fun k h p q r hp => by
  obtain ⟨z1, z2, z3, z4, z5, z6⟩ := lohi a m b h1 h2
  have hr : (a + b) / 2 + m - 1 - h ≥ m := by
    unfold hi0 at r
    split at r <;> omega
  exact hn.tr _ (g xs h) _ (hx.le hn (by omega) q (by omega)) (hn.tr _ (g xs ((a + b) / 2 + m - 1 - h)) _ hp (hy.le hn hr (by omega) (by omega)))
/-- Behind the search and the turn: s is where it was cut. -/
structure Cut (o : Int → Int → Int) (a s mid e b : Nat) (xs ys : List Int) : Prop where
  sh : Shuf a b xs ys
  s1 : Srt o a s ys
  s2 : Srt o s mid ys
  s3 : Srt o mid e ys
  s4 : Srt o e b ys
  cross : ∀ p q, a ≤ p → p < mid → mid ≤ q → q < b → ¬ o (g ys q) (g ys p) < 0
theorem cut_made {o : Int → Int → Int} (hn : Nice o) {a m b s : Nat} {xs ys : List Int} (h1 : a < m) (h2 : m < b) (hx : Srt o a m xs) (hy : Srt o m b xs) (hs1 : lo0 a m b ≤ s) (hs2 : s ≤ hi0 a m b)
    (hc : Sch (fun c => ¬ o (g xs ((a + b) / 2 + m - 1 - c)) (g xs c) < 0) (lo0 a m b) (hi0 a m b) s s) (hr : Rotd s m ((a + b) / 2 + m - s) xs ys) : Cut o a s ((a + b) / 2) ((a + b) / 2 + m - s) b xs ys := by
  obtain ⟨z1, z2, z3, z4, z5, z6⟩ := lohi a m b h1 h2
  have y1 : s ≤ m := by omega
  have y2 : m ≤ (a + b) / 2 + m - s := by omega
  have y3 : (a + b) / 2 + m - s ≤ b := by omega
  have v1 : ∀ k, a ≤ k → k < s → g ys k = g xs k := fun k _ hk => hr.out k (.inl hk)
  have v2 : ∀ k, s ≤ k → k < (a + b) / 2 → g ys k = g xs (k + (m - s)) := fun k p q => by rw [hr.val k p (by omega)]; unfold tgt; rw [if_pos (by omega)]
  have v3 : ∀ k, (a + b) / 2 ≤ k → k < (a + b) / 2 + m - s → g ys k = g xs (k - ((a + b) / 2 - s)) := fun k p q => by
    rw [hr.val k (by omega) q]; unfold tgt; rw [if_neg (by omega)]; congr 1; omega
  have v4 : ∀ k, (a + b) / 2 + m - s ≤ k → k < b → g ys k = g xs k := fun k p _ => hr.out k (.inr p)
  have c1 : s < m → m < (a + b) / 2 + m - s → ¬ o (g xs s) (g xs ((a + b) / 2 + m - s - 1)) < 0 := fun q1 q2 => by
    have hs : s < hi0 a m b := by unfold hi0; unfold hi0 at hs2; split at hs2 <;> split <;> omega
    have := hc.no s (Nat.le_refl _) hs
    rw [show (a + b) / 2 + m - 1 - s = (a + b) / 2 + m - s - 1 by omega] at this
    exact hn.asym _ _ (Classical.byContradiction this)
  have c2 : a < s → (a + b) / 2 + m - s < b → ¬ o (g xs ((a + b) / 2 + m - s)) (g xs (s - 1)) < 0 := fun q1 q2 => by
    have hs : lo0 a m b ≤ s - 1 := by unfold lo0; unfold lo0 at hs1; split at hs1 <;> split <;> omega
    have := hc.yes (s - 1) hs (by omega)
    rw [show (a + b) / 2 + m - 1 - (s - 1) = (a + b) / 2 + m - s by omega] at this
    exact this
  refine ⟨(hr.shuf y1 y2).wide (by omega) y3, (hx.narrow (Nat.le_refl _) y1).same v1, fun p q p1 p2 p3 => ?_, fun p q p1 p2 p3 => ?_, fun p q p1 p2 p3 => ?_, fun p q p1 p2 p3 p4 => ?_⟩
  · rw [v2 p p1 (by omega), v2 q (by omega) p3]
    exact hy _ _ (by omega) (by omega) (by omega)
  · rw [v3 p p1 (by omega), v3 q (by omega) p3]
    exact hx _ _ (by omega) (by omega) (by omega)
  · rw [v4 p p1 (by omega), v4 q (by omega) p3]
    exact hy _ _ (by omega) (by omega) (by omega)
  · by_cases e1 : p < s
    · rw [v1 p p1 e1]
      by_cases e2 : q < (a + b) / 2 + m - s
      · rw [v3 q p3 e2]
        exact hx _ _ p1 (by omega) (by omega)
      · rw [v4 q (by omega) p4]
        exact hn.tr _ (g xs (s - 1)) _ (hx.le hn p1 (by omega) (by omega)) (hn.tr _ (g xs ((a + b) / 2 + m - s)) _ (c2 (by omega) (by omega)) (hy.le hn y2 (by omega) p4))
    · rw [v2 p (by omega) p2]
      by_cases e2 : q < (a + b) / 2 + m - s
      · rw [v3 q p3 e2]
        exact hn.tr _ (g xs ((a + b) / 2 + m - s - 1)) _ (hy.le hn (by omega) (by omega) (by omega)) (hn.tr _ (g xs s) _ (c1 (by omega) (by omega)) (hx.le hn (by omega) (by omega) (by omega)))
      · rw [v4 q (by omega) p4]
        exact hy _ _ (by omega) (by omega) p4
/-- Both halves merged, it is merged. -/
theorem Cut.whole {o : Int → Int → Int} (hn : Nice o) {a s mid e b : Nat} {xs ys zs us : List Int} (h : Cut o a s mid e b xs ys) (h1 : a ≤ mid) (h2 : mid ≤ b) (hz : Mrg o a mid ys zs) (hu : Mrg o mid b zs us) : Mrg o a b xs us := by
  refine ⟨(h.sh.trans (hz.sh.wide (Nat.le_refl _) h2)).trans (hu.sh.wide h1 (Nat.le_refl _)), Srt.join (m := mid) (hz.srt.same fun k p q => hu.sh.out k (.inl q)) hu.srt fun p q p1 p2 p3 p4 => ?_⟩
  obtain ⟨q', q1, q2, e1⟩ := hu.sh.mem q p3 p4
  obtain ⟨p', r1, r2, e2⟩ := hz.sh.mem p p1 p2
  rw [e1, hz.sh.out q' (.inr q1), hu.sh.out p (.inl p2), e2]
  exact h.cross p' q' r1 r2 q1 q2
/-- The second half stays as it was while the first is merged. -/
theorem Cut.second {o : Int → Int → Int} {a s mid e b : Nat} {xs ys zs : List Int} (h : Cut o a s mid e b xs ys) (hz : Shuf a mid ys zs) : Srt o mid e zs ∧ Srt o e b zs ∨ e < mid := by
  by_cases he : e < mid
  · exact .inr he
  · exact .inl ⟨h.s3.same fun k p q => hz.out k (.inr p), h.s4.same fun k p q => hz.out k (.inr (by omega))⟩
/-- Nothing is to be merged where one side is empty. -/
theorem Mrg.left {o : Int → Int → Int} {a s mid : Nat} {ys : List Int} (s1 : Srt o a s ys) (s2 : Srt o s mid ys) (h : ¬ (a < s ∧ s < mid)) (hs : s ≤ mid) (ha : a ≤ s) : Mrg o a mid ys ys :=
  ⟨Shuf.refl _ _ _, by
    by_cases e : a < s
    · obtain rfl : s = mid := by omega
      exact s1
    · obtain rfl : a = s := by omega
      exact s2⟩
end Go.Proofs.YtcmajhdgaeploaaDoor.Stab
