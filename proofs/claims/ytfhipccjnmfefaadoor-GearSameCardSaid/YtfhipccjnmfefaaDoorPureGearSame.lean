/- GearSame, the plain part: chunks behind a cut are the cut of the rest. -/
import Derived.Test.YtfhipccjnmfefaaDoorQGearx7
import Derived.Test.YtfhipccjnmfefaaDoorGearMore
namespace Go.Proofs.YtfhipccjnmfefaaDoor.Pure
open Go.RowKit Go.Proofs.YtfhipccjnmfefaaDoor.QGear Go.Proofs.YtfhipccjnmfefaaDoorW.PrintWords Go.Proofs.YtfhipccjnmfefaaDoorW.PrintLast Go.Proofs.YtfhipccjnmfefaaDoorW.PrintMore
set_option linter.unusedVariables false

theorem extract_extract (s : ByteArray) (a t : Nat) (ha : a ≤ s.size) : (s.extract a s.size).extract t (s.extract a s.size).size = s.extract (a + t) s.size := by
  apply ByteArray.ext
  have h2 : s.data.toList.length = s.size := data_length s
  rw [size_cut s a ha]
  simp only [ByteArray.data_extract]
  apply Array.toList_inj.mp
  simp only [Array.toList_extract, List.extract_eq_take_drop]
  rw [List.take_of_length_le (l := s.data.toList.drop a) (by rw [List.length_drop]; omega), List.drop_drop, List.take_of_length_le (by rw [List.length_drop]; omega), List.take_of_length_le (by rw [List.length_drop]; omega)]
/-- The last X bytes. -/
def tail (u : ByteArray) (X : Nat) : ByteArray := u.extract (u.size - X) u.size
theorem tail_size (u : ByteArray) (X : Nat) (h : X ≤ u.size) : (tail u X).size = X := by unfold tail; rw [ByteArray.size_extract]; omega
theorem tail_all (u : ByteArray) : tail u u.size = u := by unfold tail; rw [Nat.sub_self, extract_all]
theorem tail_step {x0 y x2 : Int} (hx : GOK x0 y x2) (u : ByteArray) (X : Nat) (hX : X ≤ u.size) (c : ByteArray) (r : List ByteArray) (h : cut x0 y x2 (tail u X) = c :: r) :
    0 < c.size ∧ c.size ≤ X ∧ r = cut x0 y x2 (tail u (X - c.size)) := by
  have hs := tail_size u X hX
  by_cases h0 : (tail u X).size = 0
  · rw [cut_nil _ _ _ _ h0] at h; cases h
  · have hb := firstN_bounds hx (tail u X)
    rw [cut_cons hx _ h0] at h
    generalize firstN x0 y x2 (tail u X) = t at h hb
    injection h with h1 h2
    have hc : c.size = t := by rw [← h1, ByteArray.size_extract]; omega
    refine ⟨by omega, by omega, ?_⟩
    rw [← h2, hc]
    congr 1
    unfold tail
    rw [extract_extract u (u.size - X) t (by omega)]
    congr 1
    omega
theorem tail_same (p q s : ByteArray) (X : Nat) (h : X ≤ s.size) : tail (p ++ s) X = tail (q ++ s) X := by
  have e : ∀ p : ByteArray, tail (p ++ s) X = tail s X := by
    intro p
    apply ByteArray.ext
    have h2 : s.data.toList.length = s.size := data_length s
    have h3 : p.data.toList.length = p.size := data_length p
    unfold tail
    rw [size_append]
    simp only [ByteArray.data_extract, ByteArray.data_append]
    apply Array.toList_inj.mp
    simp only [Array.toList_extract, Array.toList_append, List.extract_eq_take_drop]
    rw [List.take_of_length_le (by simp <;> omega), List.take_of_length_le (by simp <;> omega), List.drop_append, List.drop_of_length_le (by simp; omega), List.nil_append]
    congr 1
    omega
  rw [e p, e q]

/-- Each entry tells a cut and the place behind it. -/
def GoodE (a : List ByteArray) (u : ByteArray) (x0 y x2 : Int) (es : List (Int × Int)) : Prop :=
  ∀ p ∈ es, ∃ n X : Nat, p.1 = (X : Int) ∧ p.2 = (n : Int) ∧ n ≤ a.length ∧ X ≤ u.size ∧ a.drop n = cut x0 y x2 (tail u X)
theorem ents_good {x0 y x2 : Int} (hx : GOK x0 y x2) (a : List ByteArray) (u : ByteArray) (hu : u.size ≤ 5000) :
    ∀ (l : List ByteArray) (X n : Nat) (acc : List (Int × Int)), a.drop n = l → n + l.length = a.length → a.length ≤ 5000 → X ≤ u.size → l = cut x0 y x2 (tail u X) → GoodE a u x0 y x2 acc → (∃ v, ((X : Int), v) ∈ acc) →
      GoodE a u x0 y x2 (garretlaw11_GearSame.ents l (X : Int) (n : Int) acc) ∧ ∃ v, ((0 : Int), v) ∈ garretlaw11_GearSame.ents l (X : Int) (n : Int) acc := by
  intro l
  induction l with
  | nil =>
    intro X n acc h1 h2 h3 h4 h5 h6 h7
    simp only [garretlaw11_GearSame.ents]
    refine ⟨h6, ?_⟩
    have h0 : X = 0 := by
      by_cases z : X = 0
      · exact z
      · have hs := tail_size u X h4
        rw [cut_cons hx _ (by omega)] at h5
        cases h5
    obtain ⟨v, hv⟩ := h7
    exact ⟨v, by rw [h0] at hv; exact hv⟩
  | cons c r ih =>
    intro X n acc h1 h2 h3 h4 h5 h6 h7
    obtain ⟨s1, s2, s3⟩ := tail_step hx u X h4 c r h5.symm
    rw [List.length_cons] at h2
    have w1 : wrap64 ((X : Int) - (c.size : Int)) = ((X - c.size : Nat) : Int) := by unfold wrap64; omega
    have w2 : wrap64 ((n : Int) + 1) = ((n + 1 : Nat) : Int) := by unfold wrap64; omega
    have hd : a.drop (n + 1) = r := by rw [← List.drop_drop, h1]; rfl
    simp only [garretlaw11_GearSame.ents]
    rw [w1, w2]
    refine ih (X - c.size) (n + 1) _ hd (by omega) h3 (by omega) s3 ?_ ⟨_, List.mem_cons_self⟩
    intro p hp
    rcases List.mem_cons.1 hp with rfl | hp
    · exact ⟨n + 1, X - c.size, rfl, rfl, by omega, by omega, by rw [hd]; exact s3⟩
    · exact h6 p hp
theorem look_some {es : List (Int × Int)} {x v : Int} (h : garretlaw11_GearSame.look es x = some v) : (x, v) ∈ es := by
  unfold garretlaw11_GearSame.look at h
  rw [Option.map_eq_some_iff] at h
  obtain ⟨⟨a, b⟩, h1, h2⟩ := h
  have := List.find?_some h1
  have hm := List.mem_of_find?_eq_some h1
  dsimp only at h2 this
  subst h2
  obtain rfl := beq_iff_eq.1 this
  exact hm
theorem look_there {es : List (Int × Int)} {x v : Int} (h : (x, v) ∈ es) : ∃ u, garretlaw11_GearSame.look es x = some u := by
  unfold garretlaw11_GearSame.look
  cases hf : es.find? (fun p => p.1 == x) with
  | none => exact absurd (List.find?_eq_none.1 hf _ h) (by simp)
  | some q => exact ⟨q.2, rfl⟩
theorem loop_told {x0 y x2 : Int} (hx : GOK x0 y x2) (p q s : ByteArray) (a b : List ByteArray) (es : List (Int × Int)) (k : Nat) (hk : 5001 ≤ k) (hq : (q ++ s).size ≤ 5000) (hla : a.length ≤ 5000) (hlb : b.length ≤ 5000)
    (hes : GoodE a (p ++ s) x0 y x2 es) (h0 : ∃ v, ((0 : Int), v) ∈ es) :
    ∀ (l : List ByteArray) (X i : Nat), b.drop i = l → i + l.length = b.length → X ≤ (q ++ s).size → 0 < X → l = cut x0 y x2 (tail (q ++ s) X) →
      garretlaw11_GearSame.loop k a b (s.size : Int) es l (X : Int) i = some true := by
  intro l
  induction l with
  | nil =>
    intro X i h1 h2 h3 h4 h5
    have hs := tail_size (q ++ s) X h3
    rw [cut_cons hx _ (by omega)] at h5
    cases h5
  | cons c r ih =>
    intro X i h1 h2 h3 h4 h5
    obtain ⟨s1, s2, s3⟩ := tail_step hx (q ++ s) X h3 c r h5.symm
    rw [List.length_cons] at h2
    have w1 : wrap64 ((X : Int) - (c.size : Int)) = ((X - c.size : Nat) : Int) := by unfold wrap64; omega
    have hd : b.drop (i + 1) = r := by rw [← List.drop_drop, h1]; rfl
    simp only [garretlaw11_GearSame.loop]
    rw [w1]
    have next : X - c.size ≠ 0 → garretlaw11_GearSame.loop k a b (s.size : Int) es r ((X - c.size : Nat) : Int) (i + 1) = some true := fun z => ih (X - c.size) (i + 1) hd (by omega) (by omega) (by omega) s3
    cases hl : garretlaw11_GearSame.look es ((X - c.size : Nat) : Int) with
    | none =>
      refine next (fun z => ?_)
      obtain ⟨v, hv⟩ := h0
      rw [z] at hl
      obtain ⟨u, hu⟩ := look_there hv
      rw [show ((0 : Nat) : Int) = 0 from rfl, hu] at hl
      cases hl
    | some v =>
      dsimp only
      by_cases c1 : ((X - c.size : Nat) : Int) ≤ (s.size : Int)
      · rw [if_pos c1]
        obtain ⟨n, Y, e1, e2, e3, e4, e5⟩ := hes _ (look_some hl)
        dsimp only at e1 e2
        obtain rfl : X - c.size = Y := by omega
        subst e2
        rw [if_pos ⟨by omega, by omega⟩, Int.toNat_natCast, hd, e5, s3, tail_same p q s _ (by omega)]
        refine same_refl _ ?_ ?_
        · have := cut_length hx _ (tail (q ++ s) (X - c.size)) (Nat.le_refl _)
          rw [tail_size _ _ (by omega)] at this
          omega
        · have := cut_length hx _ (tail (q ++ s) (X - c.size)) (Nat.le_refl _)
          rw [tail_size _ _ (by omega)] at this
          omega
      · rw [if_neg c1]
        exact next (fun z => c1 (by rw [z]; omega))

theorem GearSame : garretlaw11_GearSame.Pure := by
  intro n0 n1 n2 p q s h1 h2 h3 _ _ _
  obtain ⟨k, hk⟩ : ∃ k : Nat, k = 40000 := ⟨_, rfl⟩
  refine ⟨k, ?_⟩
  obtain ⟨x0, y, x2, hsu, hx⟩ := setup_told n0 n1 n2 h1 h2 h3
  unfold garretlaw11_GearSame.f
  rw [bnd (works_told (by omega)), if_pos rfl]
  by_cases c1 : (p.size : Int) > 1000
  · rw [if_pos c1]
  rw [if_neg c1]
  by_cases c2 : (q.size : Int) > 1000
  · rw [if_pos c2]
  rw [if_neg c2]
  by_cases c3 : (s.size : Int) > 1000
  · rw [if_pos c3]
  rw [if_neg c3]
  have z1 : (p ++ s).size = p.size + s.size := size_append p s
  have z2 : (q ++ s).size = q.size + s.size := size_append q s
  rw [bnd hsu]
  dsimp only
  rw [bnd (chunks_told hx (p ++ s) (by omega) (by omega)), bnd (chunks_told hx (q ++ s) (by omega) (by omega))]
  dsimp only
  have la := cut_length hx _ (p ++ s) (Nat.le_refl _)
  have lb := cut_length hx _ (q ++ s) (Nat.le_refl _)
  rw [if_pos ⟨rfl, rfl, by omega⟩]
  have wp : wrap64 ((p.size : Int) + (s.size : Int)) = (((p ++ s).size : Nat) : Int) := by rw [z1]; unfold wrap64; omega
  have wq : wrap64 ((q.size : Int) + (s.size : Int)) = (((q ++ s).size : Nat) : Int) := by rw [z2]; unfold wrap64; omega
  rw [wp, wq]
  by_cases c4 : (((q ++ s).size : Nat) : Int) = 0
  · rw [if_pos c4, if_pos (by rw [cut_nil _ _ _ _ (by omega)]; rfl)]
  · rw [if_neg c4]
    obtain ⟨g1, g2⟩ := ents_good hx (cut x0 y x2 (p ++ s)) (p ++ s) (by omega) (cut x0 y x2 (p ++ s)) (p ++ s).size 0 [(((p ++ s).size : Nat), 0)] rfl (by omega) (by omega) (Nat.le_refl _) (by rw [tail_all])
      (fun e he => by
        obtain rfl := List.mem_singleton.1 he
        exact ⟨0, (p ++ s).size, rfl, rfl, Nat.zero_le _, Nat.le_refl _, by rw [tail_all]; rfl⟩) ⟨0, List.mem_singleton.2 rfl⟩
    exact loop_told hx p q s _ _ _ k (by omega) (by omega) (by omega) (by omega) g1 g2 (cut x0 y x2 (q ++ s)) (q ++ s).size 0 rfl (by omega) (Nat.le_refl _) (by omega) (by rw [tail_all])

end Go.Proofs.YtfhipccjnmfefaaDoor.Pure
