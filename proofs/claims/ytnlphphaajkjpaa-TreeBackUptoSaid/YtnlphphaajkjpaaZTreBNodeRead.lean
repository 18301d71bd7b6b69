/- Nodes, the plain part: what a reader reads as a node; a text that is one. -/
import Derived.Test.YtnlphphaajkjpaaZTreBNodes
namespace Go.Proofs.Ytnlphphaajkjpaa.QTreB
open Go.RowKit Go.Proofs.YtnlphphaajkjpaaW.PrintWords Go.Proofs.YtnlphphaajkjpaaW.PrintLast Go.Proofs.YtnlphphaajkjpaaW.PrintMore
set_option linter.unusedVariables false

theorem rerr_told (s : ByteArray) (e : Int) : num_Reader_Err.f s e = some (e, s, e) := rfl
theorem j1_err (k : Nat) (s : ByteArray) (e : Int) (he : e ≠ 0) (f0 : ByteArray) (f1 f2 f3 f4 f5 : Int) (f6 : List ByteArray) (f7 f8 : ByteArray) :
    node_Read.j1 (k + 1) s e f0 f1 f2 f3 f4 f5 f6 f7 f8 = some ((⟨#[]⟩ : ByteArray), 0, 0, 0, 0, 0, ([] : List ByteArray), (⟨#[]⟩ : ByteArray), (⟨#[]⟩ : ByteArray), s, e) := by
  rw [node_Read.j1, bnd (rerr_told s e)]
  dsimp only
  rw [if_neg he, bnd (fail_told s e 180)]
  dsimp only
  rw [if_neg he]
theorem j1_ok (x : S24) (hl : x.f6.length ≤ 5000) (s : ByteArray) {k : Nat} (hk : 5010 ≤ k) :
    (Good x ∧ node_Read.j1 (k + 1) s 0 x.f0 x.f1 x.f2 x.f3 x.f4 x.f5 x.f6 x.f7 x.f8 = some (x.f0, x.f1, x.f2, x.f3, x.f4, x.f5, x.f6, x.f7, x.f8, s, 0)) ∨ node_Read.j1 (k + 1) s 0 x.f0 x.f1 x.f2 x.f3 x.f4 x.f5 x.f6 x.f7 x.f8 = some ((⟨#[]⟩ : ByteArray), 0, 0, 0, 0, 0, ([] : List ByteArray), (⟨#[]⟩ : ByteArray), (⟨#[]⟩ : ByteArray), s, 180) := by
  rcases good_or x (by omega) with h | h
  · refine .inl ⟨h, ?_⟩
    have hc : node_Check.f k x.f0 x.f1 x.f2 x.f3 x.f4 x.f5 x.f6 x.f7 x.f8 = some 0 := h.2 k (by omega)
    rw [node_Read.j1, bnd (rerr_told s 0)]
    dsimp only
    rw [if_pos rfl, bnd hc, if_pos rfl]
  · right
    have hc : node_Check.f k x.f0 x.f1 x.f2 x.f3 x.f4 x.f5 x.f6 x.f7 x.f8 = some 180 := h k (by omega)
    rw [node_Read.j1, bnd (rerr_told s 0)]
    dsimp only
    rw [if_pos rfl, bnd hc, if_neg (by decide), bnd (fail_told s 0 180)]
    rfl
theorem l0_err (k : Nat) (n i : Int) (s : ByteArray) (e : Int) (he : e ≠ 0) (f0 : ByteArray) (f1 f2 f3 f4 f5 : Int) (f6 : List ByteArray) (f7 f8 : ByteArray) :
    node_Read.l0 (k + 2) n i s e f0 f1 f2 f3 f4 f5 f6 f7 f8 = some ((⟨#[]⟩ : ByteArray), 0, 0, 0, 0, 0, ([] : List ByteArray), (⟨#[]⟩ : ByteArray), (⟨#[]⟩ : ByteArray), s, e) := by
  rw [node_Read.l0]
  by_cases h : i < n
  · rw [if_pos h, bnd (rerr_told s e)]
    dsimp only
    rw [if_neg he]
    exact j1_err k s e he _ _ _ _ _ _ _ _ _
  · rw [if_neg h]
    exact j1_err k s e he _ _ _ _ _ _ _ _ _
theorem l0_round (k : Nat) (n i : Nat) (hlt : i < n) (hn : n ≤ 4096) (s s' b : ByteArray) (e : Int) (hb : num_Reader_Bytes.f s 0 ((32 : Nat) : Int) = some (b, s', e)) (f0 : ByteArray) (f1 f2 f3 f4 f5 : Int) (f6 : List ByteArray) (f7 f8 : ByteArray) (h6 : f6.length ≤ 4096) :
    node_Read.l0 (k + 1) (n : Int) (i : Int) s 0 f0 f1 f2 f3 f4 f5 f6 f7 f8 = node_Read.l0 k (n : Int) ((i + 1 : Nat) : Int) s' e f0 f1 f2 f3 f4 f5 (f6 ++ [b]) f7 f8 := by
  have hw : wrap64 ((i : Int) + 1) = ((i + 1 : Nat) : Int) := by unfold wrap64; omega
  rw [node_Read.l0, if_pos (by omega), bnd (rerr_told s 0)]
  dsimp only
  rw [if_pos rfl, bnd (show num_Reader_Bytes.f s 0 32 = _ from hb), if_pos (by omega), hw]
theorem l0_last (k : Nat) (n : Nat) (s : ByteArray) (f0 : ByteArray) (f1 f2 f3 f4 f5 : Int) (f6 : List ByteArray) (f7 f8 : ByteArray) :
    node_Read.l0 (k + 1) (n : Int) (n : Int) s 0 f0 f1 f2 f3 f4 f5 f6 f7 f8 = node_Read.j1 k s 0 f0 f1 f2 f3 f4 f5 f6 f7 f8 := by
  rw [node_Read.l0, if_neg (by omega)]
theorem l0_told (n : Nat) (hn : n ≤ 4096) (f0 : ByteArray) (f1 f2 f3 f4 f5 : Int) (f7 f8 : ByteArray) : ∀ (d i : Nat) (f6 : List ByteArray) (s : ByteArray) (k : Nat), i + d = n → f6.length = i → d + 6000 ≤ k →
    (∃ (new : List ByteArray) (s' : ByteArray) (k1 : Nat), new.length = d ∧ (∀ y ∈ new, y.size = 32) ∧ bytesOf s = new.flatMap bytesOf ++ bytesOf s' ∧ s'.size ≤ s.size ∧ 5900 ≤ k1 ∧
      node_Read.l0 k (n : Int) (i : Int) s 0 f0 f1 f2 f3 f4 f5 f6 f7 f8 = node_Read.j1 (k1 + 1) s' 0 f0 f1 f2 f3 f4 f5 (f6 ++ new) f7 f8) ∨
    (∃ (s' : ByteArray) (e : Int), e ≠ 0 ∧ s'.size ≤ s.size ∧ node_Read.l0 k (n : Int) (i : Int) s 0 f0 f1 f2 f3 f4 f5 f6 f7 f8 = some ((⟨#[]⟩ : ByteArray), 0, 0, 0, 0, 0, ([] : List ByteArray), (⟨#[]⟩ : ByteArray), (⟨#[]⟩ : ByteArray), s', e)) := by
  intro d
  induction d with
  | zero =>
    intro i f6 s k hi h6 hk
    obtain ⟨k, rfl⟩ : ∃ q, k = q + 2 := ⟨k - 2, by omega⟩
    obtain rfl : i = n := by omega
    exact .inl ⟨[], s, k, rfl, by simp, rfl, Nat.le_refl _, by omega, by rw [l0_last, List.append_nil]⟩
  | succ d ih =>
    intro i f6 s k hi h6 hk
    obtain ⟨k, rfl⟩ : ∃ q, k = q + 3 := ⟨k - 3, by omega⟩
    obtain ⟨b, s1, e1, g1, g2, g3, g4⟩ := (item_bytes 32).step s 0
    rw [show k + 3 = (k + 2) + 1 from rfl, l0_round (k + 2) n i (by omega) hn s s1 b e1 g1 f0 f1 f2 f3 f4 f5 f6 f7 f8 (by omega)]
    by_cases he : e1 = 0
    · subst he
      obtain ⟨_, hz, hb⟩ := g4 rfl
      rcases ih (i + 1) (f6 ++ [b]) s1 (k + 2) (by omega) (by rw [List.length_append, List.length_singleton]; omega) (by omega) with ⟨new, s', k1, a1, a2, a3, a4, a5, a6⟩ | ⟨s', e, a1, a2, a3⟩
      · refine .inl ⟨b :: new, s', k1, by rw [List.length_cons]; omega, ?_, ?_, by omega, a5, ?_⟩
        · intro y hy
          rcases List.mem_cons.1 hy with rfl | hy
          · exact hz
          · exact a2 y hy
        · rw [hb, a3, List.flatMap_cons, List.append_assoc]
        · rw [a6, List.append_assoc]; rfl
      · exact .inr ⟨s', e, a1, by omega, a3⟩
    · exact .inr ⟨s1, e1, he, g2, l0_err k _ _ s1 e1 he _ _ _ _ _ _ _ _ _⟩
theorem l0_fwd (n : Nat) (hn : n ≤ 4096) (f0 : ByteArray) (f1 f2 f3 f4 f5 : Int) (f7 f8 : ByteArray) (rest : List Int) : ∀ (new f6 : List ByteArray) (s : ByteArray) (k : Nat), f6.length + new.length = n → (∀ y ∈ new, y.size = 32) → bytesOf s = new.flatMap bytesOf ++ rest → new.length + 6000 ≤ k →
    ∃ (s' : ByteArray) (k1 : Nat), 5900 ≤ k1 ∧ bytesOf s' = rest ∧ node_Read.l0 k (n : Int) (f6.length : Int) s 0 f0 f1 f2 f3 f4 f5 f6 f7 f8 = node_Read.j1 (k1 + 1) s' 0 f0 f1 f2 f3 f4 f5 (f6 ++ new) f7 f8 := by
  intro new
  induction new with
  | nil =>
    intro f6 s k h6 _ hs hk
    rw [List.length_nil] at h6 hk
    obtain ⟨k, rfl⟩ : ∃ q, k = q + 2 := ⟨k - 2, by omega⟩
    refine ⟨s, k, by omega, hs, ?_⟩
    rw [show f6.length = n by omega, l0_last, List.append_nil]
  | cons b new ih =>
    intro f6 s k h6 h32 hs hk
    rw [List.length_cons] at h6 hk
    obtain ⟨k, rfl⟩ : ∃ q, k = q + 1 := ⟨k - 1, by omega⟩
    rw [List.flatMap_cons, List.append_assoc] at hs
    obtain ⟨s1, g1, g2⟩ := (item_bytes 32).fwd b s _ (h32 b (List.mem_cons_self ..)) hs
    rw [l0_round k n f6.length (by omega) hn s s1 b 0 g1 f0 f1 f2 f3 f4 f5 f6 f7 f8 (by omega)]
    obtain ⟨s', k1, a1, a2, a3⟩ := ih (f6 ++ [b]) s1 k (by rw [List.length_append, List.length_singleton]; omega) (fun y hy => h32 y (List.mem_cons_of_mem _ hy)) g2 (by omega)
    refine ⟨s', k1, a1, a2, ?_⟩
    rw [List.length_append, List.length_singleton] at a3
    rw [a3, List.append_assoc]; rfl

/-- What is read as a node: one that may be, by its own bytes; or nothing, and the reader has failed. -/
def Told (r : Option (ByteArray × Int × Int × Int × Int × Int × List ByteArray × ByteArray × ByteArray × ByteArray × Int)) (s : ByteArray) (e : Int) : Prop :=
  (∃ (x : S24) (s' : ByteArray), e = 0 ∧ r = some (x.f0, x.f1, x.f2, x.f3, x.f4, x.f5, x.f6, x.f7, x.f8, s', 0) ∧ Good x ∧ bytesOf s = nEnc x ++ bytesOf s' ∧ s'.size ≤ s.size) ∨
  (∃ (s' : ByteArray) (e' : Int), e' ≠ 0 ∧ (e ≠ 0 → e' = e) ∧ r = some ((⟨#[]⟩ : ByteArray), 0, 0, 0, 0, 0, ([] : List ByteArray), (⟨#[]⟩ : ByteArray), (⟨#[]⟩ : ByteArray), s', e') ∧ s'.size ≤ s.size)
theorem told_bad {r : Option (ByteArray × Int × Int × Int × Int × Int × List ByteArray × ByteArray × ByteArray × ByteArray × Int)} {s : ByteArray} {e : Int} (s' : ByteArray) (e' : Int) (h : e' ≠ 0) (h2 : e ≠ 0 → e' = e) (hr : r = some ((⟨#[]⟩ : ByteArray), 0, 0, 0, 0, 0, ([] : List ByteArray), (⟨#[]⟩ : ByteArray), (⟨#[]⟩ : ByteArray), s', e')) (hs : s'.size ≤ s.size) : Told r s e := .inr ⟨s', e', h, h2, hr, hs⟩
theorem read_told {k : Nat} (hk : 20000 ≤ k) (s : ByteArray) (e : Int) : Told (node_Read.f k s e) s e := by
  obtain ⟨k, rfl⟩ : ∃ q, k = q + 1 := ⟨k - 1, by omega⟩
  obtain ⟨v0, s0, e0, h0, z0, p0, q0⟩ := (item_text (k := k + 1) (by omega) 64 (by decide)).step s e
  obtain ⟨v1, s1, e1, h1, z1, p1, q1⟩ := item_fixed1.step s0 e0
  obtain ⟨v2, s2, e2, h2, z2, p2, q2⟩ := (item_short (k := k + 1) (by omega) 4095 (by decide)).step s1 e1
  obtain ⟨v3, s3, e3, h3, z3, p3, q3⟩ := (item_short (k := k + 1) (by omega) 1099511627776 (by decide)).step s2 e2
  obtain ⟨v4, s4, e4, h4, z4, p4, q4⟩ := (item_short (k := k + 1) (by omega) 1099511627776 (by decide)).step s3 e3
  try dsimp only at h0 h1 h2 h3 h4 q0 q1 q2 q3 q4
  -- what is known as soon as the fifth thing was read
  have all : e4 = 0 → e = 0 ∧ e0 = 0 ∧ e1 = 0 ∧ e2 = 0 ∧ e3 = 0 := fun h => by
    have a := q4 h
    have b := q3 a.1
    have c := q2 b.1
    have d := q1 c.1
    have f := q0 d.1
    exact ⟨f.1, d.1, c.1, b.1, a.1⟩
  have keep : e ≠ 0 → e4 = e := fun h => by
    have a := p0 h
    have b := p1 (by rw [a]; exact h)
    have c := p2 (by rw [b, a]; exact h)
    have d := p3 (by rw [c, b, a]; exact h)
    have f := p4 (by rw [d, c, b, a]; exact h)
    rw [f, d, c, b, a]
  have pre : e4 = 0 → ∀ (t : List Int), bytesOf s4 = t → bytesOf s = (encS v0.size ++ bytesOf v0) ++ ([v1] ++ (encS v2.toNat ++ (encS v3.toNat ++ (encS v4.toNat ++ t)))) := fun h t ht => by
    have a := q4 h
    have b := q3 a.1
    have c := q2 b.1
    have d := q1 c.1
    have f := q0 d.1
    rw [f.2.2, d.2.2, c.2.2, b.2.2, a.2.2, ht]
  have hz : s4.size ≤ s.size := by omega
  unfold node_Read.f
  rw [bnd h0]; dsimp only
  rw [bnd h1]; dsimp only
  rw [bnd h2]; dsimp only
  rw [bnd h3]; dsimp only
  rw [bnd h4]; dsimp only
  by_cases c1 : v1 = 1
  · rw [if_pos c1]
    obtain ⟨v5, s5, e5, h5, z5, p5, q5⟩ := (item_short (k := k + 1) (by omega) 1073741824 (by decide)).step s4 e4
    obtain ⟨v6, s6, e6, h6, z6, p6, q6⟩ := (item_short (k := k + 1) (by omega) 4096 (by decide)).step s5 e5
    try dsimp only at h5 h6 q5 q6
    rw [bnd h5]; dsimp only
    rw [bnd h6]; dsimp only
    by_cases he : e6 = 0
    · obtain ⟨a5, ⟨b6, b6'⟩, d6⟩ := q6 he
      obtain ⟨a4, _, d5⟩ := q5 a5
      subst he
      obtain ⟨n, hn⟩ := Int.eq_ofNat_of_zero_le b6
      subst hn
      rcases l0_told n (by omega) v0 v1 v2 v3 v4 v5 (⟨#[]⟩ : ByteArray) (⟨#[]⟩ : ByteArray) n 0 [] s6 (k + 1) (by omega) rfl (by omega) with ⟨new, s', k1, w1, w2, w3, w4, w5, w6⟩ | ⟨s', e', w1, w2, w3⟩
      · rw [show ((0 : Nat) : Int) = 0 from rfl] at w6
        rw [w6, List.nil_append]
        rcases j1_ok (⟨v0, v1, v2, v3, v4, v5, new, (⟨#[]⟩ : ByteArray), (⟨#[]⟩ : ByteArray)⟩ : S24) (by show new.length ≤ 5000; omega) s' (k := k1) (by omega) with ⟨hg, hr⟩ | hr
        · refine .inl ⟨_, s', (all a4).1, hr, hg, ?_, by omega⟩
          rw [pre a4 (encS v5.toNat ++ (encS n ++ (new.flatMap bytesOf ++ bytesOf s'))) (by rw [d5, d6, w3, Int.toNat_natCast])]
          unfold nEnc nTail
          dsimp only
          rw [if_pos c1, w1]
          simp only [List.append_assoc]
        · exact told_bad s' 180 (by decide) (fun h => absurd (all a4).1 h) hr (by omega)
      · exact told_bad s' e' w1 (fun h => absurd (all a4).1 h) w3 (by omega)
    · refine told_bad s6 e6 he (fun h => ?_) (by rw [show k + 1 = (k - 1) + 2 by omega]; exact l0_err _ _ _ s6 e6 he _ _ _ _ _ _ _ _ _) (by omega)
      have a := keep h
      have b := p5 (by rw [a]; exact h)
      rw [p6 (by rw [b, a]; exact h), b, a]
  · rw [if_neg c1]
    by_cases c2 : v1 = 2
    · rw [if_pos c2]
      obtain ⟨v5, s5, e5, h5, z5, p5, q5⟩ := (item_bytes 32).step s4 e4
      rw [bnd (show num_Reader_Bytes.f s4 e4 32 = _ from h5)]; dsimp only
      by_cases he : e5 = 0
      · obtain ⟨a4, b5, d5⟩ := q5 he
        subst he
        rcases j1_ok (⟨v0, v1, v2, v3, v4, 0, [], v5, (⟨#[]⟩ : ByteArray)⟩ : S24) (by show (0 : Nat) ≤ 5000; omega) s5 (k := k) (by omega) with ⟨hg, hr⟩ | hr
        · refine .inl ⟨_, s5, (all a4).1, hr, hg, ?_, by omega⟩
          rw [pre a4 _ d5]
          unfold nEnc nTail
          dsimp only
          rw [if_neg c1, if_pos c2]
          simp only [List.append_assoc]
        · exact told_bad s5 180 (by decide) (fun h => absurd (all a4).1 h) hr (by omega)
      · exact told_bad s5 e5 he (fun h => by rw [p5 (by rw [keep h]; exact h), keep h]) (j1_err k s5 e5 he _ _ _ _ _ _ _ _ _) (by omega)
    · rw [if_neg c2]
      by_cases c3 : v1 = 3
      · rw [if_pos c3]
        obtain ⟨v5, s5, e5, h5, z5, p5, q5⟩ := (item_text (k := k + 1) (by omega) 1024 (by decide)).step s4 e4
        try dsimp only at h5 q5
        rw [bnd h5]; dsimp only
        by_cases he : e5 = 0
        · obtain ⟨a4, b5, d5⟩ := q5 he
          subst he
          rcases j1_ok (⟨v0, v1, v2, v3, v4, 0, [], (⟨#[]⟩ : ByteArray), v5⟩ : S24) (by show (0 : Nat) ≤ 5000; omega) s5 (k := k) (by omega) with ⟨hg, hr⟩ | hr
          · refine .inl ⟨_, s5, (all a4).1, hr, hg, ?_, by omega⟩
            rw [pre a4 _ d5]
            unfold nEnc nTail
            dsimp only
            rw [if_neg c1, if_neg c2]
            simp only [List.append_assoc]
          · exact told_bad s5 180 (by decide) (fun h => absurd (all a4).1 h) hr (by omega)
        · exact told_bad s5 e5 he (fun h => by rw [p5 (by rw [keep h]; exact h), keep h]) (j1_err k s5 e5 he _ _ _ _ _ _ _ _ _) (by omega)
      · rw [if_neg c3]
        by_cases he : e4 = 0
        · subst he
          rcases j1_ok (⟨v0, v1, v2, v3, v4, 0, [], (⟨#[]⟩ : ByteArray), (⟨#[]⟩ : ByteArray)⟩ : S24) (by show (0 : Nat) ≤ 5000; omega) s4 (k := k) (by omega) with ⟨hg, hr⟩ | hr
          · exfalso
            rcases hg.1.kd with h | h | h
            · exact c1 h.1
            · exact c2 h.1
            · exact c3 h.1
          · exact told_bad s4 180 (by decide) (fun h => absurd (all rfl).1 h) hr (by omega)
        · exact told_bad s4 e4 he keep (j1_err k s4 e4 he _ _ _ _ _ _ _ _ _) (by omega)
theorem read_fwd {k : Nat} (hk : 20000 ≤ k) {x : S24} (hg : Good x) (s : ByteArray) (rest : List Int) (hs : bytesOf s = nEnc x ++ rest) :
    ∃ s', node_Read.f k s 0 = some (x.f0, x.f1, x.f2, x.f3, x.f4, x.f5, x.f6, x.f7, x.f8, s', 0) ∧ bytesOf s' = rest := by
  obtain ⟨k, rfl⟩ : ∃ q, k = q + 1 := ⟨k - 1, by omega⟩
  have hids := hg.ids
  have hn := hg.1
  have j1 : ∀ (s' : ByteArray) (k1 : Nat), 5010 ≤ k1 → node_Read.j1 (k1 + 1) s' 0 x.f0 x.f1 x.f2 x.f3 x.f4 x.f5 x.f6 x.f7 x.f8 = some (x.f0, x.f1, x.f2, x.f3, x.f4, x.f5, x.f6, x.f7, x.f8, s', 0) := fun s' k1 h => by
    have hc : node_Check.f k1 x.f0 x.f1 x.f2 x.f3 x.f4 x.f5 x.f6 x.f7 x.f8 = some 0 := hg.2 k1 (by omega)
    rw [node_Read.j1, bnd (rerr_told s' 0)]
    dsimp only
    rw [if_pos rfl, bnd hc, if_pos rfl]
  unfold nEnc at hs
  simp only [List.append_assoc] at hs
  obtain ⟨s0, h0, b0⟩ := (item_text (k := k + 1) (by omega) 64 (by decide)).fwd x.f0 s _ hn.nm (by rw [List.append_assoc]; exact hs)
  obtain ⟨s1, h1, b1⟩ := item_fixed1.fwd x.f1 s0 _ (by rcases hn.kd with h | h | h <;> omega) b0
  obtain ⟨s2, h2, b2⟩ := (item_short (k := k + 1) (by omega) 4095 (by decide)).fwd x.f2 s1 _ hn.md b1
  obtain ⟨s3, h3, b3⟩ := (item_short (k := k + 1) (by omega) 1099511627776 (by decide)).fwd x.f3 s2 _ hn.mt b2
  obtain ⟨s4, h4, b4⟩ := (item_short (k := k + 1) (by omega) 1099511627776 (by decide)).fwd x.f4 s3 _ hn.ct b3
  try dsimp only at h0 h1 h2 h3 h4
  unfold node_Read.f
  rw [bnd h0]; dsimp only
  rw [bnd h1]; dsimp only
  rw [bnd h2]; dsimp only
  rw [bnd h3]; dsimp only
  rw [bnd h4]; dsimp only
  rcases hn.kd with ⟨c1, h7, h8, h5, h5', h6, h32⟩ | ⟨c1, h5, h6, h7, h8⟩ | ⟨c1, h5, h6, h7, h8⟩
  · unfold nTail at b4
    rw [if_pos c1, List.append_assoc, List.append_assoc] at b4
    obtain ⟨s5, g5, b5⟩ := (item_short (k := k + 1) (by omega) 1073741824 (by decide)).fwd x.f5 s4 _ ⟨h5, h5'⟩ b4
    obtain ⟨s6, g6, b6⟩ := (item_short (k := k + 1) (by omega) 4096 (by decide)).fwd (x.f6.length : Int) s5 (x.f6.flatMap bytesOf ++ rest) (by omega) (by rw [b5]; rfl)
    try dsimp only at g5 g6
    rw [if_pos c1, bnd g5]; dsimp only
    rw [bnd g6]; dsimp only
    obtain ⟨s', k1, w1, w2, w3⟩ := l0_fwd x.f6.length h6 x.f0 x.f1 x.f2 x.f3 x.f4 x.f5 (⟨#[]⟩ : ByteArray) (⟨#[]⟩ : ByteArray) rest x.f6 [] s6 (k + 1) (by rw [List.length_nil]; omega) h32 b6 (by omega)
    refine ⟨s', ?_, w2⟩
    have w3 : node_Read.l0 (k + 1) (x.f6.length : Int) 0 s6 0 x.f0 x.f1 x.f2 x.f3 x.f4 x.f5 [] (⟨#[]⟩ : ByteArray) (⟨#[]⟩ : ByteArray) = _ := w3
    rw [w3, List.nil_append]
    have := j1 s' k1 (by omega)
    rw [h7, h8] at this ⊢
    exact this
  · unfold nTail at b4
    rw [if_neg (by omega), if_pos c1] at b4
    obtain ⟨s5, g5, b5⟩ := (item_bytes 32).fwd x.f7 s4 _ h7 b4
    rw [if_neg (by omega), if_pos c1, bnd (show num_Reader_Bytes.f s4 0 32 = _ from g5)]; dsimp only
    refine ⟨s5, ?_, b5⟩
    have := j1 s5 k (by omega)
    rw [h5, h6, h8] at this ⊢
    exact this
  · unfold nTail at b4
    rw [if_neg (by omega), if_neg (by omega)] at b4
    obtain ⟨s5, g5, b5⟩ := (item_text (k := k + 1) (by omega) 1024 (by decide)).fwd x.f8 s4 _ h8 b4
    try dsimp only at g5
    rw [if_neg (by omega), if_neg (by omega), if_pos c1, bnd g5]; dsimp only
    refine ⟨s5, ?_, b5⟩
    have := j1 s5 k (by omega)
    rw [h5, h6, h7] at this ⊢
    exact this
theorem end_told (s : ByteArray) (e : Int) : num_Reader_End.f s e = some (if s.size = 0 then e else if e = 0 then 3 else e, s, if s.size = 0 then e else if e = 0 then 3 else e) := by
  unfold num_Reader_End.f num_Reader_Left.f
  dsimp only [Option.bind]
  by_cases h : s.size = 0
  · rw [if_neg (by omega), if_pos h]
  · rw [if_pos (by omega), if_neg h, fail_told]
end Go.Proofs.Ytnlphphaajkjpaa.QTreB
