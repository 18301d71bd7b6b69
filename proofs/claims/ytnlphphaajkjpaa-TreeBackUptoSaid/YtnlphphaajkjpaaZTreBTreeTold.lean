/- Trees, the plain part: Encode is a tree's text just where all nodes may be, rise, and are not too many; else a code. -/
import Derived.Test.YtnlphphaajkjpaaZTreBTreeCodec
namespace Go.Proofs.Ytnlphphaajkjpaa.QTreB
open Go.RowKit Go.Proofs.YtnlphphaajkjpaaW.PrintWords Go.Proofs.YtnlphphaajkjpaaW.PrintLast Go.Proofs.YtnlphphaajkjpaaW.PrintMore
set_option linter.unusedVariables false
theorem flat_len (l : List ByteArray) (h : ∀ y ∈ l, y.size = 32) : (l.flatMap bytesOf).length = l.length * 32 := by
  induction l with
  | nil => rfl
  | cons a l ih =>
    rw [List.flatMap_cons, List.length_append, ih (fun y hy => h y (List.mem_cons_of_mem _ hy)), bytesOf_size, h a (List.mem_cons_self ..), List.length_cons]
    omega
theorem enc_len {x : Nd} (hg : Good x) : 0 < (nEnc x).length ∧ (nEnc x).length ≤ 500000 := by
  have hn := hg.1
  have hnm := hn.nm; have hmd := hn.md; have hmt := hn.mt; have hct := hn.ct
  have l0 := encS_len9 (x := x.f0.size) (by omega)
  have l2 := encS_len9 (x := x.f2.toNat) (by omega)
  have l3 := encS_len9 (x := x.f3.toNat) (by omega)
  have l4 := encS_len9 (x := x.f4.toNat) (by omega)
  have ht : (nTail x).length ≤ 200000 := by
    unfold nTail
    rcases hn.kd with ⟨h1, h7, h8, h5, h5', h6, h32⟩ | ⟨h1, h5, h6, h7, h8⟩ | ⟨h1, h5, h6, h7, h8⟩
    · rw [if_pos h1, List.length_append, List.length_append, flat_len x.f6 h32]
      have l5 := encS_len9 (x := x.f5.toNat) (by omega)
      have l6 := encS_len9 (x := x.f6.length) (by omega)
      omega
    · rw [if_neg (by omega), if_pos h1, bytesOf_size]; omega
    · rw [if_neg (by omega), if_neg (by omega), List.length_append, bytesOf_size]
      have l8 := encS_len9 (x := x.f8.size) (by omega)
      omega
  unfold nEnc
  simp only [List.length_append, List.length_singleton, bytesOf_size]
  omega
theorem rises_tot (l : List Nd) (hl : l.length ≤ 1048576) : ∃ r, ∀ q, l.length < q → tree_rises.f q l = some r := by
  have key : ∀ (d j : Nat), l.length ≤ j + 1 + d → ∃ r, ∀ q, d < q → tree_rises.l0 q l ((j + 1 : Nat) : Int) = some r := by
    intro d
    induction d with
    | zero =>
      intro j hj
      refine ⟨true, fun q hq => ?_⟩
      obtain ⟨q, rfl⟩ : ∃ m, q = m + 1 := ⟨q - 1, by omega⟩
      rw [tree_rises.l0, if_neg (by omega)]
    | succ d ih =>
      intro j hj
      obtain ⟨r, hr⟩ := ih (j + 1) (by omega)
      by_cases hlt : j + 1 < l.length
      · have hw : wrap64 (((j + 1 : Nat) : Int) + 1) = ((j + 1 + 1 : Nat) : Int) := by unfold wrap64; omega
        have hv : wrap64 (((j + 1 : Nat) : Int) - 1) = (j : Int) := by unfold wrap64; omega
        cases hc : (Op.bytesLess (((rd_T24 l (j : Int)).f0).toList) (((rd_T24 l ((j + 1 : Nat) : Int)).f0).toList)) with
        | true =>
          refine ⟨r, fun q hq => ?_⟩
          obtain ⟨q, rfl⟩ : ∃ m, q = m + 1 := ⟨q - 1, by omega⟩
          rw [tree_rises.l0, if_pos (by omega), hv, if_pos (by omega), if_pos (by omega), if_pos (by omega), hc, if_pos rfl, hw]
          exact hr q (by omega)
        | false =>
          refine ⟨false, fun q hq => ?_⟩
          obtain ⟨q, rfl⟩ : ∃ m, q = m + 1 := ⟨q - 1, by omega⟩
          rw [tree_rises.l0, if_pos (by omega), hv, if_pos (by omega), if_pos (by omega), if_pos (by omega), hc, if_neg (by decide)]
      · refine ⟨true, fun q hq => ?_⟩
        obtain ⟨q, rfl⟩ : ∃ m, q = m + 1 := ⟨q - 1, by omega⟩
        rw [tree_rises.l0, if_neg (by omega)]
  obtain ⟨r, hr⟩ := key l.length 0 (by omega)
  exact ⟨r, hr⟩
/-- What Encode does behind the nodes. -/
def encTl (k : Nat) (l : List Nd) (s : ByteArray) : Option (ByteArray × Int) :=
  (tree_rises.f k l).bind fun t => (if t = true then (if (l.length : Int) > 4096 then (some ((⟨#[]⟩ : ByteArray), 2)) else (if (s.size : Int) > 65536 then (some ((⟨#[]⟩ : ByteArray), 2)) else (some (s, 0)))) else (some ((⟨#[]⟩ : ByteArray), 190)))
theorem rd_nd (l : List Nd) (i : Nat) (hi : i < l.length) : rd_T24 l (i : Int) = l[i] := by
  unfold rd_T24
  rw [Int.toNat_natCast, List.getD_eq_getElem?_getD, List.getElem?_eq_getElem hi]; rfl
theorem enc_good (l : List Nd) (hl : l.length ≤ 1048576) : ∀ (d i : Nat) (s : ByteArray) (k m : Nat), i + d = l.length → (∀ x ∈ l.drop i, Good x) → s.size ≤ 100 + i * 500000 → 5000 ≤ m → d + m + 1 ≤ k →
    ∃ s' k1, m ≤ k1 ∧ tree_Encode.l0 k l s (i : Int) = encTl k1 l s' ∧ bytesOf s' = bytesOf s ++ (l.drop i).flatMap nEnc := by
  intro d
  induction d with
  | zero =>
    intro i s k m hi _ _ hm hk
    obtain ⟨k, rfl⟩ : ∃ q, k = q + 1 := ⟨k - 1, by omega⟩
    refine ⟨s, k, by omega, ?_, ?_⟩
    · rw [tree_Encode.l0, if_neg (by omega)]; rfl
    · rw [List.drop_eq_nil_of_le (by omega)]; simp
  | succ d ih =>
    intro i s k m hi hg hs hm hk
    obtain ⟨k, rfl⟩ : ∃ q, k = q + 1 := ⟨k - 1, by omega⟩
    have hlt : i < l.length := by omega
    have hw : wrap64 ((i : Int) + 1) = ((i + 1 : Nat) : Int) := by unfold wrap64; omega
    rw [List.drop_eq_getElem_cons hlt] at hg
    have hx := hg l[i] (List.mem_cons_self ..)
    obtain ⟨b, he, hb⟩ := encode_told hx (k := k) (by omega)
    have hz : b.size ≤ 500000 := by rw [← bytesOf_size, hb]; exact (enc_len hx).2
    obtain ⟨s', k1, h1, h2, h3⟩ := ih (i + 1) (s ++ b) k m (by omega) (fun x hx => hg x (List.mem_cons_of_mem _ hx)) (by rw [ByteArray.size_append]; omega) hm (by omega)
    refine ⟨s', k1, h1, ?_, ?_⟩
    · rw [tree_Encode.l0, if_pos (by omega), if_pos (by omega), rd_nd l i hlt, bnd he]
      dsimp only
      rw [if_pos rfl, if_pos (by omega), hw]
      exact h2
    · rw [h3, List.drop_eq_getElem_cons hlt, List.flatMap_cons, bytesOf_append, hb, List.append_assoc]
theorem enc_bad (l : List Nd) (hl : l.length ≤ 1048576) (hids : ∀ x ∈ l, x.f6.length ≤ 100000) : ∀ (d i : Nat) (s : ByteArray) (k : Nat), i + d = l.length → (¬ ∀ x ∈ l.drop i, Good x) → s.size ≤ 100 + i * 500000 → d + 200000 ≤ k →
    tree_Encode.l0 k l s (i : Int) = some ((⟨#[]⟩ : ByteArray), 180) := by
  intro d
  induction d with
  | zero =>
    intro i s k hi hg _ hk
    rw [List.drop_eq_nil_of_le (by omega)] at hg
    exact absurd (fun x hx => absurd hx (by simp)) hg
  | succ d ih =>
    intro i s k hi hg hs hk
    obtain ⟨k, rfl⟩ : ∃ q, k = q + 1 := ⟨k - 1, by omega⟩
    have hlt : i < l.length := by omega
    have hw : wrap64 ((i : Int) + 1) = ((i + 1 : Nat) : Int) := by unfold wrap64; omega
    have hn := hids l[i] (List.getElem_mem hlt)
    rcases good_or l[i] hn with hx | hx
    · obtain ⟨b, he, hb⟩ := encode_told hx (k := k) (by omega)
      have hz : b.size ≤ 500000 := by rw [← bytesOf_size, hb]; exact (enc_len hx).2
      rw [tree_Encode.l0, if_pos (by omega), if_pos (by omega), rd_nd l i hlt, bnd he]
      dsimp only
      rw [if_pos rfl, if_pos (by omega), hw]
      refine ih (i + 1) (s ++ b) k (by omega) (fun hall => hg ?_) (by rw [ByteArray.size_append]; omega) (by omega)
      rw [List.drop_eq_getElem_cons hlt]
      intro x hx'
      rcases List.mem_cons.1 hx' with rfl | h
      · exact hx
      · exact hall x h
    · have he := encode_bad hx (k := k) (by omega)
      rw [tree_Encode.l0, if_pos (by omega), if_pos (by omega), rd_nd l i hlt, bnd he]
      dsimp only
      rw [if_neg (by decide)]
theorem enc_enter (l : List Nd) (hl : l.length ≤ 1048576) {k : Nat} (hk : 30 ≤ k) : ∃ b, tree_Encode.f k l = tree_Encode.l0 k l b 0 ∧ bytesOf b = encS l.length ∧ b.size ≤ 100 := by
  have h9 := encS_len9 (x := l.length) (by omega)
  refine ⟨strOfNums (encS l.length), ?_, bytesOf_strOfNums (encS_bytes _), ?_⟩
  · unfold tree_Encode.f
    rw [bnd (short_told (by omega) (l.length : Int) (by omega) (by omega)), Int.toNat_natCast]
    dsimp only
    rw [if_pos ?_]
    rw [← bytesOf_size, bytesOf_strOfNums (encS_bytes _)]; omega
  · rw [← bytesOf_size, bytesOf_strOfNums (encS_bytes _)]; omega
/-- Encode ends; and where it tells no code, all is as it must be. -/
theorem tencode_told (l : List Nd) (hl : l.length ≤ 1048576) (hids : ∀ x ∈ l, x.f6.length ≤ 100000) {k : Nat} (hk : 3000000 ≤ k) :
    ∃ b e, tree_Encode.f k l = some (b, e) ∧ (e = 0 → (∀ x ∈ l, Good x) ∧ l.length ≤ 4096 ∧ b.size ≤ 65536 ∧ bytesOf b = tEnc l ∧ ∀ q, l.length < q → tree_rises.f q l = some true) := by
  obtain ⟨b0, h0, hb0, hz0⟩ := enc_enter l hl (k := k) (by omega)
  by_cases hg : ∀ x ∈ l.drop 0, Good x
  · obtain ⟨s', k1, h1, h2, h3⟩ := enc_good l hl l.length 0 b0 k 1900000 (by omega) hg (by omega) (by omega) (by omega)
    obtain ⟨r, hr⟩ := rises_tot l hl
    rw [h0, show tree_Encode.l0 k l b0 0 = _ from h2]
    unfold encTl
    rw [bnd (hr k1 (by omega))]
    cases r with
    | false => rw [if_neg (by decide)]; exact ⟨_, _, rfl, fun h => by cases h⟩
    | true =>
      rw [if_pos rfl]
      by_cases c1 : (l.length : Int) > 4096
      · rw [if_pos c1]; exact ⟨_, _, rfl, fun h => by cases h⟩
      · rw [if_neg c1]
        by_cases c2 : (s'.size : Int) > 65536
        · rw [if_pos c2]; exact ⟨_, _, rfl, fun h => by cases h⟩
        · rw [if_neg c2]
          refine ⟨_, _, rfl, fun _ => ⟨hg, by omega, by omega, ?_, hr⟩⟩
          rw [h3, hb0]; rfl
  · rw [h0, show tree_Encode.l0 k l b0 0 = _ from enc_bad l hl hids l.length 0 b0 k (by omega) hg (by omega) (by omega)]
    exact ⟨_, _, rfl, fun h => by cases h⟩
theorem tencode_fwd (l : List Nd) (hg : ∀ x ∈ l, Good x) (hl : l.length ≤ 4096) (hr : ∀ q, l.length < q → tree_rises.f q l = some true) (s : ByteArray) (hs : bytesOf s = tEnc l) (hz : s.size ≤ 65536) {k : Nat} (hk : 3000000 ≤ k) : tree_Encode.f k l = some (s, 0) := by
  obtain ⟨b0, h0, hb0, hz0⟩ := enc_enter l (by omega) (k := k) (by omega)
  obtain ⟨s', k1, h1, h2, h3⟩ := enc_good l (by omega) l.length 0 b0 k 1900000 (by omega) (by simpa using hg) (by omega) (by omega) (by omega)
  have e : s' = s := bytesOf_inj (by rw [h3, hb0, hs]; rfl)
  rw [h0, show tree_Encode.l0 k l b0 0 = _ from h2, e]
  unfold encTl
  rw [bnd (hr k1 (by omega)), if_pos rfl, if_neg (by omega), if_neg (by omega)]
end Go.Proofs.Ytnlphphaajkjpaa.QTreB
