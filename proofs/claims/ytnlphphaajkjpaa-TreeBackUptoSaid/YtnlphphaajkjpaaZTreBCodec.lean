/- What a reader reads, thing by thing: each way to read answers always; of a thing's own bytes it reads that thing, and what stands behind them stays; and what it has read are that thing's bytes. -/
import Derived.Test.YtnlphphaajkjpaaZTreBNum
namespace Go.Proofs.Ytnlphphaajkjpaa.QTreB
open Go.RowKit Go.Proofs.YtnlphphaajkjpaaW.PrintWords Go.Proofs.YtnlphphaajkjpaaW.PrintLast Go.Proofs.YtnlphphaajkjpaaW.PrintMore
set_option linter.unusedVariables false

theorem num_step (acc c : Int) (h0 : 0 ≤ acc) (h1 : acc < 1099511627776) (hc0 : 0 ≤ c) (hc1 : c < 256) : Go.bits .or .i64 (wrap64 (acc * 256)) (wrap64 c) = acc * 256 + c := by
  have e1 : wrap64 (acc * 256) = acc * 256 := by unfold wrap64; omega
  have e2 : wrap64 c = c := by unfold wrap64; omega
  rw [e1, e2]
  exact bits_join .i64 63 (by decide) (fun n h0 h1 => by rw [i64_w]; unfold wrap64; omega) 8 _ _ (by omega) (by omega) (by omega) hc0 (by omega) (by omega)
theorem rbytes_err (s : ByteArray) (e a : Int) (he : e ≠ 0) : num_Reader_Bytes.f s e a = some ((⟨#[]⟩ : ByteArray), s, e) := by
  unfold num_Reader_Bytes.f
  by_cases h : a < 0
  · rw [if_pos h, fail_told, if_neg he]
    simp only [Option.bind_some]
    rw [if_neg he]
  · rw [if_neg h]
    simp only [num_Reader_Left.f, Option.bind_some]
    by_cases h2 : a > (s.size : Int)
    · rw [if_pos h2, fail_told, if_neg he]
      simp only [Option.bind_some]
      rw [if_neg he]
    · rw [if_neg h2, if_neg he]
theorem rbytes_ok (s : ByteArray) (a : Nat) (h : a ≤ s.size) : num_Reader_Bytes.f s 0 a = some (s.extract 0 a, s.extract a s.size, 0) := by
  unfold num_Reader_Bytes.f
  rw [if_neg (by omega)]
  simp only [num_Reader_Left.f, Option.bind_some]
  rw [if_neg (by omega)]
  simp only [if_true]
  rw [if_pos (by omega), if_pos (by omega)]
  simp
theorem rbytes_end (s : ByteArray) (a : Nat) (h : s.size < a) : num_Reader_Bytes.f s 0 a = some ((⟨#[]⟩ : ByteArray), s, 10) := by
  unfold num_Reader_Bytes.f
  rw [if_neg (by omega)]
  simp only [num_Reader_Left.f, Option.bind_some]
  rw [if_pos (by omega), fail_told, if_pos rfl]
  simp only [Option.bind_some]
  rw [if_neg (by decide)]
theorem rfixed_err (s : ByteArray) (e a : Int) (he : e ≠ 0) : num_Reader_Fixed.f s e a = some (0, s, e) := by
  unfold num_Reader_Fixed.f
  have h1 : (if a < 1 ∨ a > 7 then num_Reader_Fail.f s e 1 else some (s, e)) = some (s, e) := by
    rw [fail_told, if_neg he]; split <;> rfl
  rw [h1]
  simp only [Option.bind_some]
  rw [rbytes_err s e a he]
  rfl
theorem ext_take (s : ByteArray) (a : Nat) : bytesOf (s.extract 0 a) = (bytesOf s).take a := by rw [bytesOf_extract]; simp
theorem ext_drop (s : ByteArray) (a : Nat) : bytesOf (s.extract a s.size) = (bytesOf s).drop a := by
  rw [bytesOf_extract, List.take_of_length_le]
  rw [List.length_drop, bytesOf_size]
  exact Nat.le_refl _
theorem short_ok {k : Nat} (hk : 11 ≤ k) (x : Nat) (most : Int) (h : x < 9223372036854775808) (hm : (x : Int) ≤ most) (s : ByteArray) (more : List Int) (hs : bytesOf s = encS x ++ more) :
    ∃ s', num_Reader_Short.f k s 0 most = some ((x : Int), s', 0) ∧ bytesOf s' = more := by
  have hl := encS_len9 h
  have hsz : s.size = (encS x).length + more.length := by rw [size_eq, hs, List.length_append]
  refine ⟨s.extract (encS x).length s.size, ?_, by rw [ext_drop, hs, List.drop_left]⟩
  refine rshort_ok hk s most x _ ?_ hm (by omega)
  rw [hs, List.take_append, List.take_of_length_le hl, decGo_enc _ _ _ _ _ (by omega)]
  simp
theorem text_ok {k : Nat} (hk : 11 ≤ k) (t : ByteArray) (most : Int) (h : t.size < 9223372036854775808) (hm : (t.size : Int) ≤ most) (s : ByteArray) (more : List Int) (hs : bytesOf s = (encS t.size ++ bytesOf t) ++ more) :
    ∃ s', num_Reader_Text.f k s 0 most = some (t, s', 0) ∧ bytesOf s' = more := by
  obtain ⟨s1, h1, hb1⟩ := short_ok hk t.size most h hm s (bytesOf t ++ more) (by rw [hs, List.append_assoc])
  have hsz : s1.size = t.size + more.length := by rw [size_eq, hb1, List.length_append, bytesOf_size]
  refine ⟨s1.extract t.size s1.size, ?_, by rw [ext_drop, hb1, List.drop_left' (bytesOf_size t)]⟩
  unfold num_Reader_Text.f
  rw [h1]
  simp only [Option.bind_some]
  rw [rbytes_ok s1 t.size (by omega)]
  simp only [Option.bind_some, if_true]
  have : s1.extract 0 t.size = t := by
    apply bytesOf_inj
    rw [ext_take, hb1, List.take_left' (bytesOf_size t)]
  rw [this]

/-- One way to read: it answers always; a reader that has failed stays as it is; of a thing's own bytes; of what it has read. -/
structure Item {α : Type} (f : ByteArray → Int → Option (α × ByteArray × Int)) (enc : α → List Int) (ok : α → Prop) : Prop where
  tot : ∀ (s : ByteArray) (e : Int), ∃ v s' e', f s e = some (v, s', e') ∧ s'.size ≤ s.size ∧ (e ≠ 0 → e' = e)
  fwd : ∀ (v : α) (s : ByteArray) (rest : List Int), ok v → bytesOf s = enc v ++ rest → ∃ s', f s 0 = some (v, s', 0) ∧ bytesOf s' = rest
  bwd : ∀ (s : ByteArray) (v : α) (s' : ByteArray), f s 0 = some (v, s', 0) → ok v ∧ bytesOf s = enc v ++ bytesOf s'
/-- What is known of one reading. -/
theorem Item.step {α : Type} {f : ByteArray → Int → Option (α × ByteArray × Int)} {enc : α → List Int} {ok : α → Prop} (h : Item f enc ok) (s : ByteArray) (e : Int) :
    ∃ v s' e', f s e = some (v, s', e') ∧ s'.size ≤ s.size ∧ (e ≠ 0 → e' = e) ∧ (e' = 0 → e = 0 ∧ ok v ∧ bytesOf s = enc v ++ bytesOf s') := by
  obtain ⟨v, s', e', h1, h2, h3⟩ := h.tot s e
  refine ⟨v, s', e', h1, h2, h3, fun h0 => ?_⟩
  by_cases he : e = 0
  · subst he; subst h0
    exact ⟨rfl, h.bwd s v s' h1⟩
  · exact absurd ((h3 he).symm.trans h0) he

theorem size_drop (s : ByteArray) (j : Nat) : (s.extract j s.size).size ≤ s.size := by rw [ByteArray.size_extract]; omega
theorem rshort_long {k : Nat} (hk : 11 ≤ k) (s : ByteArray) (most n : Int) (j : Int) (hd : decGo (if s.size < 9 then 10 else 3) ((bytesOf s).take 9) 0 0 = (n, j, 0)) (hn : n > most) :
    num_Reader_Short.f k s 0 most = some (0, s, 2) := by
  obtain ⟨k, rfl⟩ : ∃ m, k = m + 1 := ⟨k - 1, by omega⟩
  unfold num_Reader_Short.f
  rw [dec_told (by omega), hd]
  simp only [Option.bind_some, if_true]
  rw [decide_eq_true hn]
  simp only [num_Reader_Short.j0, fail_told]
  rw [if_pos trivial, if_pos trivial]
  simp only [Option.bind_some]
  rw [if_neg (by decide)]
theorem take_bytes8 (s : ByteArray) (n : Nat) : Bytes8 ((bytesOf s).take n) := fun c hc => bytes8_bytesOf s c (List.mem_of_mem_take hc)
theorem ite_ne (c : Prop) [Decidable c] : (if c then (10 : Int) else 3) ≠ 0 := by split <;> decide
/-- What the bytes tell: nothing (with a code), or a number's own bytes. -/
theorem short_cases {k : Nat} (hk : 11 ≤ k) (s : ByteArray) (most : Int) :
    (∃ c : Int, c ≠ 0 ∧ num_Reader_Short.f k s 0 most = some (0, s, c)) ∨
    (∃ m len : Nat, encS m = (bytesOf s).take len ∧ len ≤ s.size ∧ (m : Int) ≤ most ∧ num_Reader_Short.f k s 0 most = some ((m : Int), s.extract len s.size, 0)) := by
  obtain ⟨n, j, c, hd⟩ : ∃ n j c, decGo (if s.size < 9 then 10 else 3) ((bytesOf s).take 9) 0 0 = (n, j, c) := ⟨_, _, _, rfl⟩
  by_cases hc : c = 0
  · subst hc
    by_cases hn : n > most
    · exact .inl ⟨2, by decide, rshort_long hk s most n j hd hn⟩
    · obtain ⟨m, len, h1, h2, h3, h4, _⟩ := decGo_ok (ite_ne _) _ _ _ _ _ (take_bytes8 s 9) hd
      have e1 : n = (m : Int) := by rw [h1]; simp
      have e2 : j = ((len : Nat) : Int) := by rw [h2]; simp
      subst e1 e2
      rw [List.length_take, bytesOf_size] at h4
      refine .inr ⟨m, len, ?_, by omega, by omega, rshort_ok hk s most _ len hd (by omega) (by omega)⟩
      rw [h3, List.take_take]
      congr 1
      omega
  · exact .inl ⟨c, hc, rshort_bad hk s most n j c hd hc⟩
theorem item_short {k : Nat} (hk : 11 ≤ k) (most : Int) (hm : most < 9223372036854775808) : Item (fun s e => num_Reader_Short.f k s e most) (fun v => encS v.toNat) (fun v => 0 ≤ v ∧ v ≤ most) where
  tot := by
    intro s e
    by_cases he : e = 0
    · subst he
      rcases short_cases hk s most with ⟨c, hc, h⟩ | ⟨m, len, h1, h2, h3, h⟩
      · exact ⟨_, _, _, h, Nat.le_refl _, fun h => absurd rfl h⟩
      · exact ⟨_, _, _, h, size_drop _ _, fun h => absurd rfl h⟩
    · exact ⟨_, _, _, rshort_err hk s e most he, Nat.le_refl _, fun _ => rfl⟩
  fwd := by
    intro v s rest hv hs
    obtain ⟨x, hx⟩ := Int.eq_ofNat_of_zero_le hv.1
    subst hx
    exact short_ok hk x most (by omega) hv.2 s rest hs
  bwd := by
    intro s v s' h
    rcases short_cases hk s most with ⟨c, hc, h'⟩ | ⟨m, len, h1, h2, h3, h'⟩
    · have h : num_Reader_Short.f k s 0 most = some (v, s', 0) := h
      rw [h'] at h
      simp only [Option.some.injEq, Prod.mk.injEq] at h
      exact absurd h.2.2 hc
    · have h : num_Reader_Short.f k s 0 most = some (v, s', 0) := h
      rw [h'] at h
      simp only [Option.some.injEq, Prod.mk.injEq] at h
      obtain ⟨rfl, rfl, _⟩ := h
      refine ⟨⟨by omega, h3⟩, ?_⟩
      show bytesOf s = encS (m : Int).toNat ++ _
      rw [Int.toNat_natCast, h1, ext_drop, List.take_append_drop]
theorem item_bytes (n : Nat) : Item (fun s e => num_Reader_Bytes.f s e (n : Int)) bytesOf (fun b => b.size = n) where
  tot := by
    intro s e
    by_cases he : e = 0
    · subst he
      by_cases h : n ≤ s.size
      · exact ⟨_, _, _, rbytes_ok s n h, size_drop _ _, fun h => absurd rfl h⟩
      · exact ⟨_, _, _, rbytes_end s n (by omega), Nat.le_refl _, fun h => absurd rfl h⟩
    · exact ⟨_, _, _, rbytes_err s e n he, Nat.le_refl _, fun _ => rfl⟩
  fwd := by
    intro v s rest hv hs
    have hz : s.size = v.size + rest.length := by rw [size_eq, hs, List.length_append, bytesOf_size]
    refine ⟨s.extract n s.size, ?_, by rw [ext_drop, hs, List.drop_left' (by rw [bytesOf_size]; exact hv)]⟩
    have h := rbytes_ok s n (by omega)
    have e1 : s.extract 0 n = v := bytesOf_inj (by rw [ext_take, hs, List.take_left' (by rw [bytesOf_size]; exact hv)])
    rw [e1] at h
    exact h
  bwd := by
    intro s v s' h
    have h : num_Reader_Bytes.f s 0 (n : Int) = some (v, s', 0) := h
    by_cases hn : n ≤ s.size
    · rw [rbytes_ok s n hn] at h
      simp only [Option.some.injEq, Prod.mk.injEq] at h
      obtain ⟨rfl, rfl, _⟩ := h
      exact ⟨by rw [ByteArray.size_extract]; omega, by rw [ext_take, ext_drop, List.take_append_drop]⟩
    · rw [rbytes_end s n (by omega)] at h
      simp only [Option.some.injEq, Prod.mk.injEq] at h
      exact absurd h.2.2 (by decide)
/-- One byte. -/
theorem fixed1_of (s s' b : ByteArray) (e : Int) (x : Int) (h : num_Reader_Bytes.f s 0 ((1 : Nat) : Int) = some (b, s', e)) (hb : bytesOf b = [x]) (h0 : 0 ≤ x) (h1 : x < 256) :
    num_Reader_Fixed.f s 0 1 = some (x, s', e) := by
  have hz : b.size = 1 := by rw [size_eq, hb]; rfl
  unfold num_Reader_Fixed.f
  rw [if_neg (by decide)]
  simp only [Option.bind_some]
  rw [show num_Reader_Bytes.f s 0 1 = some (b, s', e) from h]
  simp only [Option.bind_some]
  rw [if_pos (by omega), hb]
  have := num_step 0 x (by decide) (by decide) h0 h1
  show some (num_Reader_Fixed.num [x], s', e) = _
  unfold num_Reader_Fixed.num
  rw [List.foldl_cons, List.foldl_nil, this, Int.zero_mul, Int.zero_add]
theorem fixed1_end (s : ByteArray) (h : s.size = 0) : num_Reader_Fixed.f s 0 1 = some (0, s, 10) := by
  unfold num_Reader_Fixed.f
  rw [if_neg (by decide)]
  simp only [Option.bind_some]
  rw [show num_Reader_Bytes.f s 0 1 = _ from rbytes_end s 1 (by omega)]
  rfl
theorem one_byte (b : ByteArray) (h : b.size = 1) : ∃ x, bytesOf b = [x] ∧ 0 ≤ x ∧ x < 256 := by
  have h1 : (bytesOf b).length = 1 := by rw [bytesOf_size]; exact h
  obtain ⟨x, hx⟩ := List.length_eq_one_iff.1 h1
  have := bytes8_bytesOf b x (by rw [hx]; exact List.mem_singleton.2 rfl)
  exact ⟨x, hx, this.1, this.2⟩
theorem item_fixed1 : Item (fun s e => num_Reader_Fixed.f s e 1) (fun v => [v]) (fun v => 0 ≤ v ∧ v < 256) where
  tot := by
    intro s e
    by_cases he : e = 0
    · subst he
      by_cases h : 1 ≤ s.size
      · obtain ⟨x, hx, x0, x1⟩ := one_byte (s.extract 0 1) (by rw [ByteArray.size_extract]; omega)
        exact ⟨_, _, _, fixed1_of s _ _ 0 x (rbytes_ok s 1 h) hx x0 x1, size_drop _ _, fun h => absurd rfl h⟩
      · exact ⟨_, _, _, fixed1_end s (by omega), Nat.le_refl _, fun h => absurd rfl h⟩
    · exact ⟨_, _, _, rfixed_err s e 1 he, Nat.le_refl _, fun _ => rfl⟩
  fwd := by
    intro v s rest hv hs
    have hz : s.size = 1 + rest.length := by rw [size_eq, hs, List.length_append]; rfl
    have e1 : bytesOf (s.extract 0 1) = [v] := by rw [ext_take, hs]; rfl
    exact ⟨s.extract 1 s.size, fixed1_of s _ _ 0 v (rbytes_ok s 1 (by omega)) e1 hv.1 hv.2, by rw [ext_drop, hs]; rfl⟩
  bwd := by
    intro s v s' h
    have h : num_Reader_Fixed.f s 0 1 = some (v, s', 0) := h
    by_cases hn : 1 ≤ s.size
    · obtain ⟨x, hx, x0, x1⟩ := one_byte (s.extract 0 1) (by rw [ByteArray.size_extract]; omega)
      rw [fixed1_of s _ _ 0 x (rbytes_ok s 1 hn) hx x0 x1] at h
      simp only [Option.some.injEq, Prod.mk.injEq] at h
      obtain ⟨rfl, rfl, _⟩ := h
      refine ⟨⟨x0, x1⟩, ?_⟩
      rw [ext_drop, ← hx, ext_take, List.take_append_drop]
    · rw [fixed1_end s (by omega)] at h
      simp only [Option.some.injEq, Prod.mk.injEq] at h
      exact absurd h.2.2 (by decide)
theorem item_text {k : Nat} (hk : 11 ≤ k) (most : Int) (hm : most < 9223372036854775808) : Item (fun s e => num_Reader_Text.f k s e most) (fun t => encS t.size ++ bytesOf t) (fun t => (t.size : Int) ≤ most) where
  tot := by
    intro s e
    obtain ⟨v, s1, e1, h1, h2, h3⟩ := (item_short hk most hm).tot s e
    have h1 : num_Reader_Short.f k s e most = some (v, s1, e1) := h1
    have hu : num_Reader_Text.f k s e most = (num_Reader_Bytes.f s1 e1 v).bind fun b => if b.2.2 = 0 then some (b.1, b.2.1, b.2.2) else some (b.1, s, b.2.2) := by
      unfold num_Reader_Text.f; exact bnd h1
    have hv : ∃ b s2 e2, num_Reader_Bytes.f s1 e1 v = some (b, s2, e2) ∧ s2.size ≤ s1.size ∧ (e1 ≠ 0 → e2 = e1) := by
      by_cases he : e1 = 0
      · subst he
        by_cases h0 : e = 0
        · subst h0
          obtain ⟨w1, w2⟩ := ((item_short hk most hm).bwd s v s1 h1).1
          obtain ⟨x, hx⟩ := Int.eq_ofNat_of_zero_le w1
          subst hx
          exact (item_bytes x).tot s1 0
        · exact absurd (h3 h0) (fun h => h0 h.symm)
      · exact ⟨_, _, _, rbytes_err s1 e1 v he, Nat.le_refl _, fun _ => rfl⟩
    obtain ⟨b, s2, e2, g1, g2, g3⟩ := hv
    rw [bnd g1] at hu
    dsimp only at hu
    by_cases h0 : e2 = 0
    · rw [if_pos h0] at hu
      refine ⟨b, s2, e2, hu, Nat.le_trans g2 h2, fun he => ?_⟩
      rw [g3 (by rw [h3 he]; exact he), h3 he]
    · rw [if_neg h0] at hu
      refine ⟨b, s, e2, hu, Nat.le_refl _, fun he => ?_⟩
      rw [g3 (by rw [h3 he]; exact he), h3 he]
  fwd := fun v s rest hv hs => text_ok hk v most (by omega) hv s rest hs
  bwd := by
    intro s t s' h
    have h : num_Reader_Text.f k s 0 most = some (t, s', 0) := h
    obtain ⟨v, s1, e1, h1, h2, h3, h4⟩ := (item_short hk most hm).step s 0
    have h1 : num_Reader_Short.f k s 0 most = some (v, s1, e1) := h1
    have hu : num_Reader_Text.f k s 0 most = (num_Reader_Bytes.f s1 e1 v).bind fun b => if b.2.2 = 0 then some (b.1, b.2.1, b.2.2) else some (b.1, s, b.2.2) := by
      unfold num_Reader_Text.f; exact bnd h1
    by_cases he : e1 = 0
    · subst he
      obtain ⟨_, ⟨w1, w2⟩, w3⟩ := h4 rfl
      obtain ⟨x, hx⟩ := Int.eq_ofNat_of_zero_le w1
      subst hx
      obtain ⟨b, s2, e2, g1, g2, g3, g4⟩ := (item_bytes x).step s1 0
      rw [bnd g1] at hu
      dsimp only at hu
      by_cases h0 : e2 = 0
      · subst h0
        obtain ⟨_, gz, gb⟩ := g4 rfl
        rw [if_pos rfl, h] at hu
        simp only [Option.some.injEq, Prod.mk.injEq] at hu
        obtain ⟨rfl, rfl, _⟩ := hu
        refine ⟨by omega, ?_⟩
        rw [w3, gb, ← List.append_assoc, Int.toNat_natCast, gz]
      · rw [if_neg h0, h] at hu
        simp only [Option.some.injEq, Prod.mk.injEq] at hu
        exact absurd hu.2.2.symm h0
    · rw [bnd (rbytes_err s1 e1 v he)] at hu
      dsimp only at hu
      rw [if_neg he, h] at hu
      simp only [Option.some.injEq, Prod.mk.injEq] at hu
      exact absurd hu.2.2.symm he
end Go.Proofs.Ytnlphphaajkjpaa.QTreB
