/- What the document's answer for paths tells: its plain meaning. -/
import Derived.Test.YtcmajhdgaeploaaDoorZPthSPathTC
import Derived.Test.YtcmajhdgaeploaaDoorQPthSx4
namespace Go.Proofs.YtcmajhdgaeploaaDoor.QPthS
open Go.RowKit Go.Proofs.YtcmajhdgaeploaaDoorW.PrintWords Go.Proofs.YtcmajhdgaeploaaDoorW.PrintLast
open Go Go.Proofs.YtcmajhdgaeploaaDoor.PathOrd
theorem bt_list (a : ByteArray) (i : Nat) (h : i < a.data.toList.length) (c : UInt8) : (bt a (i : Int) = (c.toNat : Int)) ↔ a.data.toList[i] = c := by
  have hs : i < a.size := by simpa using h
  rw [← bt_at a (i : Int) (by rw [Int.toNat_natCast]; exact hs)]
  have e : a[((i : Int)).toNat]'(by rw [Int.toNat_natCast]; exact hs) = a.data.toList[i] := by
    simp only [Int.toNat_natCast]
    rfl
  rw [e]
  constructor
  · intro h; exact UInt8.toNat_inj.1 (by omega)
  · intro h; rw [h]
theorem refParts_l (a : ByteArray) (ha : a.size ≤ 100000000) : ∀ (k i from_ : Nat) (out : List ByteArray), from_ ≤ i → i ≤ a.size → out.length ≤ i → (∀ x ∈ (a.data.toList.drop from_).take (i - from_), x ≠ 47) → a.size - i + 1 < k →
    garretref17_Parts.l0 k a out (from_ : Int) (i : Int) = some (out ++ (spl (a.data.toList.drop from_)).map fun l => (⟨l.toArray⟩ : ByteArray))
  | 0, _, _, _, _, _, _, _, h => by omega
  | k + 1, i, from_, out, hf, hi, ho, hfree, hk => by
    have hlen : a.data.toList.length = a.size := by simp
    have hex : a.extract (from_ : Int).toNat (i : Int).toNat = ⟨((a.data.toList.drop from_).take (i - from_)).toArray⟩ := by
      apply eq_of_list
      rw [Lib.extract_data]
      simp
    have hw : wrap64 ((i : Int) + 1) = ((i + 1 : Nat) : Int) := by unfold wrap64; omega
    unfold garretref17_Parts.l0
    rw [if_pos (by omega), hw, hex]
    by_cases he : i = a.size
    · subst he
      rw [if_pos rfl, if_pos (by omega), if_pos (by omega), if_pos (by omega)]
      have ht : (a.data.toList.drop from_).take (a.size - from_) = a.data.toList.drop from_ := List.take_of_length_le (by rw [List.length_drop]; omega)
      rw [ht] at hfree ⊢
      obtain ⟨k, rfl⟩ : ∃ q, k = q + 1 := ⟨k - 1, by omega⟩
      unfold garretref17_Parts.l0
      rw [if_neg (by omega), spl_free _ hfree]
      rfl
    · rw [if_neg (by omega), if_pos (by omega), if_pos (by omega)]
      have hil : i < a.data.toList.length := by omega
      have hsplit : a.data.toList.drop from_ = (a.data.toList.drop from_).take (i - from_) ++ a.data.toList[i] :: a.data.toList.drop (i + 1) := by
        have h1 := (List.take_append_drop (i - from_) (a.data.toList.drop from_)).symm
        rw [List.drop_drop, show from_ + (i - from_) = i by omega, List.drop_eq_getElem_cons hil] at h1
        exact h1
      by_cases hc : a.data.toList[i] = 47
      · rw [if_pos (by have := (bt_list a i hil 47).2 hc; exact this), if_pos (by omega), if_pos (by omega), if_pos (by omega)]
        rw [refParts_l a ha k (i + 1) (i + 1) _ (Nat.le_refl _) (by omega) (by simp; omega) (by simp) (by omega)]
        generalize List.take (i - from_) (List.drop from_ a.data.toList) = C at hfree hsplit ⊢
        rw [hsplit, hc, spl_at _ _ hfree]
        simp
      · rw [if_neg (by intro h; exact hc ((bt_list a i hil 47).1 h))]
        refine refParts_l a ha k (i + 1) from_ out (by omega) (by omega) (by omega) ?_ (by omega)
        intro x hx
        have : (a.data.toList.drop from_).take (i + 1 - from_) = (a.data.toList.drop from_).take (i - from_) ++ [a.data.toList[i]] := by
          rw [show i + 1 - from_ = (i - from_) + 1 by omega, List.take_add_one, List.getElem?_drop, show from_ + (i - from_) = i by omega, List.getElem?_eq_getElem hil]
          rfl
        rw [this] at hx
        rcases List.mem_append.1 hx with h | h
        · exact hfree x h
        · rw [List.mem_singleton.1 h]; exact hc
theorem refParts_told (k : Nat) (a : ByteArray) (ha : a.size ≤ 100000000) (hk : a.size + 1 < k) : garretref17_Parts.f k a = some (parts a) := by
  unfold garretref17_Parts.f parts
  by_cases hn : a.data.toList = []
  · rw [if_pos ((nil_iff a).2 hn), if_pos hn]
  · rw [if_neg (fun e => hn ((nil_iff a).1 e)), if_neg hn]
    have h := refParts_l a ha k 0 0 [] (Nat.le_refl _) (Nat.zero_le _) (Nat.zero_le _) (by simp) (by omega)
    rw [show ((0 : Nat) : Int) = 0 from rfl] at h
    rw [h]
    rfl
theorem refIsName_l (a : ByteArray) (ha : a.size ≤ 100000000) : ∀ (k i : Nat), i ≤ a.size → a.size - i < k → garretref17_IsName.l0 k a (i : Int) = some (decide (∀ x ∈ a.data.toList.drop i, x ≠ 0 ∧ x ≠ 47))
  | 0, _, _, h => by omega
  | k + 1, i, hi, hk => by
    have hlen : a.data.toList.length = a.size := by simp
    unfold garretref17_IsName.l0
    by_cases hx : i < a.size
    · have hil : i < a.data.toList.length := by omega
      rw [if_pos (by omega), if_pos (by omega), List.drop_eq_getElem_cons hil]
      by_cases h0 : a.data.toList[i] = 0
      · rw [if_pos (by have := (bt_list a i hil 0).2 h0; exact this), decide_eq_false (fun h => (h _ (List.mem_cons_self ..)).1 h0)]
      rw [if_neg (by intro h; exact h0 ((bt_list a i hil 0).1 h))]
      by_cases h1 : a.data.toList[i] = 47
      · rw [if_pos (by have := (bt_list a i hil 47).2 h1; exact this), decide_eq_false (fun h => (h _ (List.mem_cons_self ..)).2 h1)]
      rw [if_neg (by intro h; exact h1 ((bt_list a i hil 47).1 h)), show wrap64 ((i : Int) + 1) = ((i + 1 : Nat) : Int) by unfold wrap64; omega, refIsName_l a ha k (i + 1) (by omega) (by omega)]
      congr 1
      apply decide_eq_decide.2
      constructor
      · intro h x hx
        rcases List.mem_cons.1 hx with rfl | hx
        · exact ⟨h0, h1⟩
        · exact h x hx
      · intro h x hx
        exact h x (List.mem_cons_of_mem _ hx)
    · rw [if_neg (by omega), List.drop_eq_nil_of_le (by omega), decide_eq_true (by simp)]
theorem refIsName_told (k : Nat) (a : ByteArray) (hk : 70 ≤ k) : garretref17_IsName.f k a = some (nameB a) := by
  have he : a.toList = a.data.toList := ByteArray.toList_eq a
  obtain ⟨k, rfl⟩ : ∃ q, k = q + 1 := ⟨k - 1, by omega⟩
  unfold garretref17_IsName.f nameB
  have j1 : garretref17_IsName.j0 (k + 1) a true = some false := by
    unfold garretref17_IsName.j0; rfl
  rw [j1, he]
  by_cases e1 : a.data.toList = []
  · rw [if_pos e1]; simp [e1]
  rw [if_neg e1]
  by_cases e4 : (a.size : Int) > 64
  · rw [if_pos e4, decide_eq_false (fun h => by have := h.2.2.2.1; omega)]
  rw [if_neg e4]
  by_cases e2 : a.data.toList = [46]
  · rw [if_pos e2]; simp [e2]
  rw [if_neg e2]
  by_cases e3 : a.data.toList = [46, 46]
  · rw [show (a.data.toList == ([46, 46] : List UInt8)) = true by rw [e3]; rfl, j1]
    simp [e3]
  · rw [show (a.data.toList == ([46, 46] : List UInt8)) = false by rw [beq_eq_false_iff_ne]; exact e3]
    unfold garretref17_IsName.j0
    have h := refIsName_l a (by omega) k 0 (Nat.zero_le _) (by omega)
    rw [show ((0 : Nat) : Int) = 0 from rfl] at h
    dsimp only
    rw [if_neg (by simp), h]
    congr 1
    apply decide_eq_decide.2
    rw [List.drop_zero]
    constructor
    · intro h
      exact ⟨e1, e2, e3, by omega, no_byte_mk (fun x hx => (h x hx).1), no_byte_mk (fun x hx => (h x hx).2)⟩
    · rintro ⟨-, -, -, -, h0, h1⟩ x hx
      exact ⟨no_byte h0 x hx, no_byte h1 x hx⟩
theorem refIs_l (L : List ByteArray) (hL : L.length ≤ 100000000) : ∀ (k i : Nat), i ≤ L.length → L.length - i + 70 < k → garretref17_Is.l0 k L (i : Int) = some ((L.drop i).all nameB)
  | 0, _, _, h => by omega
  | k + 1, i, hi, hk => by
    unfold garretref17_Is.l0
    by_cases hx : i < L.length
    · rw [if_pos (by omega), if_pos (by omega)]
      have ex : rdOf ByteArray.empty L (i : Int) = L[i] := by simp [rdOf, List.getD_eq_getElem?_getD, hx]
      rw [ex, List.drop_eq_getElem_cons hx, refIsName_told k _ (by omega)]
      simp only [Option.bind_some, List.all_cons]
      cases hn : nameB L[i] with
      | true => rw [if_pos rfl, Bool.true_and, show wrap64 ((i : Int) + 1) = ((i + 1 : Nat) : Int) by unfold wrap64; omega, refIs_l L hL k (i + 1) (by omega) (by omega)]
      | false => rw [if_neg (by simp)]; rfl
    · rw [if_neg (by omega), List.drop_eq_nil_of_le (by omega)]
      rfl
theorem refIs_told (k : Nat) (a : ByteArray) (ha : a.size ≤ 10000000) (hk : a.size + 100 < k) : garretref17_Is.f k a = some (isB (parts a)) := by
  have hl := parts_len a
  unfold garretref17_Is.f
  rw [refParts_told k a (by omega) (by omega)]
  simp only [Option.bind_some]
  obtain ⟨k, rfl⟩ : ∃ q, k = q + 1 := ⟨k - 1, by omega⟩
  have j1 : garretref17_Is.j0 (k + 1) (parts a) true = some false := by
    unfold garretref17_Is.j0; rfl
  rw [j1]
  unfold isB
  by_cases h1 : ((parts a).length : Int) < 1
  · rw [if_pos h1, decide_eq_false (fun h => by omega), Bool.and_false]
  rw [if_neg h1]
  by_cases h2 : ((parts a).length : Int) > 4096
  · rw [if_pos h2, decide_eq_false (fun h => by omega), Bool.and_false]
  rw [if_neg h2]
  have hne : parts a ≠ [] := fun e => by rw [e] at h1; simp at h1
  have ht := jn_total (parts a) hne
  rw [jn_parts] at ht
  have hlen : a.data.toList.length = a.size := by simp
  by_cases h3 : (a.size : Int) > 65536
  · rw [decide_eq_true h3, j1, decide_eq_false (fun h => by omega), Bool.and_false]
  · rw [decide_eq_false h3, decide_eq_true ⟨by omega, by omega, by omega⟩, Bool.and_true]
    unfold garretref17_Is.j0
    dsimp only
    have h := refIs_l (parts a) (by omega) k 0 (Nat.zero_le _) (by omega)
    rw [show ((0 : Nat) : Int) = 0 from rfl] at h
    rw [if_neg (by simp), h]
    rfl
theorem refSplit_told (k : Nat) (a : ByteArray) (ha : a.size ≤ 10000000) (hk : a.size + 100 < k) : garretref17_Split.f k a = some (if isB (parts a) = true then (parts a, 0) else ([], 170)) := by
  unfold garretref17_Split.f
  rw [refIs_told k a ha hk]
  simp only [Option.bind_some]
  rw [refParts_told k a (by omega) (by omega)]
  cases isB (parts a) <;> rfl
theorem made_l (L : List ByteArray) (hL : total L ≤ 1000000000) : ∀ (k i : Nat) (x : ByteArray), i ≤ L.length → x = jnT (L.take i) → L.length - i < k → garretref17_Made.l0 k L x (i : Int) = some (jnT L)
  | 0, _, _, _, _, h => by omega
  | k + 1, i, x, hi, hx, hk => by
    have htl := total_len L
    unfold garretref17_Made.l0
    by_cases hlt : i < L.length
    · rw [if_pos (by omega)]
      have ex : rdOf ByteArray.empty L (i : Int) = L[i] := by simp [rdOf, List.getD_eq_getElem?_getD, hlt]
      have hxs : x.size ≤ 1000000000 := by
        have h1 := jnT_size (L.take i)
        have h2 := total_take L i
        rw [hx]; omega
      have hts : L.take (i + 1) = L.take i ++ [L[i]] := by rw [List.take_add_one, List.getElem?_eq_getElem hlt]; rfl
      have hes : L[i].size ≤ 1000000000 := by
        have h1 := total_append (L.take i) (L.drop i)
        rw [List.take_append_drop, List.drop_eq_getElem_cons hlt] at h1
        simp only [total] at h1
        omega
      rw [ex, show wrap64 ((i : Int) + 1) = ((i + 1 : Nat) : Int) by unfold wrap64; omega]
      by_cases h0 : i = 0
      · subst h0
        rw [if_neg (by omega), if_pos (by omega), if_pos (by omega)]
        refine made_l L hL k 1 _ (by omega) ?_ (by omega)
        rw [hts, hx]
        simp only [List.take_zero, List.nil_append]
        rw [jnT_one, jnT_nil]
        apply eq_of_list
        simp
      · have hne : L.take i ≠ [] := fun e => by
          have := congrArg List.length e
          rw [List.length_take, List.length_nil] at this
          omega
        rw [if_pos (by omega), if_pos (by omega), if_pos (by omega), if_pos (by rw [ByteArray.size_append, show (⟨#[47]⟩ : ByteArray).size = 1 from rfl]; omega)]
        refine made_l L hL k (i + 1) _ (by omega) ?_ (by omega)
        rw [hts, jnT_snoc _ _ hne, hx]
    · rw [if_neg (by omega), hx, List.take_of_length_le (by omega)]
theorem made_told (k : Nat) (L : List ByteArray) (hL : total L ≤ 1000000000) (hk : L.length < k) : garretref17_Made.f k L = some (jnT L) := by
  have h := made_l L hL k 0 ⟨#[]⟩ (Nat.zero_le _) (by rw [List.take_zero, jnT_nil]) (by omega)
  rw [show ((0 : Nat) : Int) = 0 from rfl] at h
  exact h
theorem all_total : ∀ L : List ByteArray, (∀ x ∈ L, nameB x = true) → total L ≤ 65 * L.length
  | [], _ => Nat.le_refl _
  | a :: L, h => by
    have h1 := nameB_size (h a (List.mem_cons_self ..))
    have h2 := all_total L fun x hx => h x (List.mem_cons_of_mem _ hx)
    simp only [total, List.length_cons]
    omega
theorem refJoin_l (L : List ByteArray) (hL : L.length ≤ 10000) : ∀ (k i : Nat), i ≤ L.length → L.length - i + 700000 < k → (∀ x ∈ L.take i, nameB x = true) → garretref17_Join.l0 k L (i : Int) = some (if isB L = true then (jnT L, 0) else (⟨#[]⟩, 170))
  | 0, _, _, h, _ => by omega
  | k + 1, i, hi, hk, hall => by
    unfold garretref17_Join.l0
    by_cases hlt : i < L.length
    · rw [if_pos (by omega), if_pos (by omega)]
      have ex : rdOf ByteArray.empty L (i : Int) = L[i] := by simp [rdOf, List.getD_eq_getElem?_getD, hlt]
      rw [ex, refIsName_told k _ (by omega)]
      simp only [Option.bind_some]
      cases hn : nameB L[i] with
      | true =>
        rw [if_pos rfl, show wrap64 ((i : Int) + 1) = ((i + 1 : Nat) : Int) by unfold wrap64; omega]
        refine refJoin_l L hL k (i + 1) (by omega) (by omega) ?_
        intro x hx
        rw [List.take_add_one, List.getElem?_eq_getElem hlt] at hx
        rcases List.mem_append.1 hx with h | h
        · exact hall x h
        · rw [List.mem_singleton.1 h]; exact hn
      | false =>
        rw [if_neg (by simp), if_neg]
        intro hb
        have := isB_all hb L[i] (List.getElem_mem _)
        rw [hn] at this
        cases this
    · rw [if_neg (by omega)]
      rw [List.take_of_length_le (by omega)] at hall
      have ht := all_total L hall
      have hs := jnT_size L
      rw [made_told k L (by omega) (by omega)]
      simp only [Option.bind_some]
      rw [refIs_told k _ (by omega) (by omega)]
      simp only [Option.bind_some]
      rw [parts_jnT L hall]
      split <;> rfl
theorem refJoin_told (k : Nat) (L : List ByteArray) (hL : L.length ≤ 10000) (hk : L.length + 700000 < k) : garretref17_Join.f k L = some (if isB L = true then (jnT L, 0) else (⟨#[]⟩, 170)) := by
  have h := refJoin_l L hL k 0 (Nat.zero_le _) (by omega) (by simp)
  rw [show ((0 : Nat) : Int) = 0 from rfl] at h
  exact h
theorem refParent_told (k : Nat) (p : ByteArray) (hp : p.size ≤ 2000000) (hk : p.size + 100 < k) : garretref17_Parent.f k p = some (if isB (parts p) = true then (jnT ((parts p).take ((parts p).length - 1)), (parts p).getD ((parts p).length - 1) ByteArray.empty, 0) else (⟨#[]⟩, ⟨#[]⟩, 170)) := by
  have hl := parts_len p
  have ht := total_parts p
  unfold garretref17_Parent.f
  rw [refSplit_told k p (by omega) hk]
  simp only [Option.bind_some]
  by_cases hb : isB (parts p) = true
  · rw [if_pos hb, if_pos hb]
    have hn := isB_ne hb
    have e : wrap64 (((parts p).length : Int) - 1) = (((parts p).length - 1 : Nat) : Int) := by unfold wrap64; omega
    simp only [if_true]
    rw [e, if_pos (by omega), if_pos (by omega), Int.toNat_natCast, made_told _ _ (by have := total_take (parts p) ((parts p).length - 1); omega) (by rw [List.length_take]; omega)]
    simp only [Option.bind_some]
    rw [if_pos (by omega)]
    rfl
  · rw [if_neg hb, if_neg hb]
    rfl
theorem same_l (L : List ByteArray) (hL : L.length ≤ 100000000) : ∀ (k i : Nat), i ≤ L.length → L.length - i < k → garretbook_SameTexts.l0 k L L (i : Int) = some true
  | 0, _, _, h => by omega
  | k + 1, i, hi, hk => by
    unfold garretbook_SameTexts.l0
    by_cases hlt : i < L.length
    · rw [if_pos (by omega), if_pos (by omega), if_pos (by omega), if_pos rfl, show wrap64 ((i : Int) + 1) = ((i + 1 : Nat) : Int) by unfold wrap64; omega]
      exact same_l L hL k (i + 1) (by omega) (by omega)
    · rw [if_neg (by omega)]
theorem same_told (k : Nat) (L : List ByteArray) (hL : L.length ≤ 100000000) (hk : L.length < k) : garretbook_SameTexts.f k L L = some true := by
  unfold garretbook_SameTexts.f
  rw [if_pos rfl]
  exact same_l L hL k 0 (Nat.zero_le _) (by omega)
theorem spoil_l : ∀ (k : Nat) (L : List ByteArray) (i : Nat), L.length ≤ 100000000 → i ≤ L.length → L.length - i < k → ∃ z, garretbook_SpoilTexts.l0 k L (i : Int) = some z
  | 0, _, _, _, _, h => by omega
  | k + 1, L, i, hL, hi, hk => by
    unfold garretbook_SpoilTexts.l0
    by_cases hlt : i < L.length
    · rw [if_pos (by omega), if_pos (by omega), show wrap64 ((i : Int) + 1) = ((i + 1 : Nat) : Int) by unfold wrap64; omega]
      exact spoil_l k _ (i + 1) (by rw [List.length_set]; exact hL) (by rw [List.length_set]; omega) (by rw [List.length_set]; omega)
    · rw [if_neg (by omega)]
      exact ⟨_, rfl⟩
theorem spoil_told (k : Nat) (L : List ByteArray) (hL : L.length ≤ 100000000) (hk : L.length < k) : ∃ z, garretbook_SpoilTexts.f k L = some z := spoil_l k L 0 hL (Nat.zero_le _) (by omega)
end Go.Proofs.YtcmajhdgaeploaaDoor.QPthS
