import Derived.Test.YtcmajhdgaeploaaDoorQPthOx1
import Derived.Test.YtcmajhdgaeploaaDoorYPathSpl
import Derived.Test.YtcmajhdgaeploaaDoorYPathNames
import Derived.Test.YtcmajhdgaeploaaDoorQPthOx2
import Derived.Test.YtcmajhdgaeploaaDoorQPthOx4
import Derived.Test.YtcmajhdgaeploaaDoorYPathIso
section
/- What the printed functions of package path tell: their plain meaning. -/
namespace Go.Proofs.YtcmajhdgaeploaaDoor.QPthO
open Go.RowKit Go.Proofs.YtcmajhdgaeploaaDoorW.PrintWords Go.Proofs.YtcmajhdgaeploaaDoorW.PrintLast
open Go Go.Proofs.YtcmajhdgaeploaaDoor.PathOrd
theorem nil_iff (a : ByteArray) : a.toList = ([] : List UInt8) ↔ a.data.toList = [] := by
  rw [show a.toList = a.data.toList from ByteArray.toList_eq a]
theorem split_told (a : ByteArray) (h : a.size ≤ 2000000) (hn : a.data.toList ≠ []) : strings_Split.f a ⟨#[47]⟩ = some (parts a) := by
  unfold strings_Split.f
  have h1 : 1 ≤ (⟨#[47]⟩ : ByteArray).size := by decide
  have h2 := Lib.countB_le ⟨#[47]⟩ h1 a.size a (Nat.le_refl _)
  rw [if_pos ⟨by omega, h1, by omega, Lib.splitB_all _ h1 0 _ a rfl⟩, splitB_parts a hn]
theorem parts_told (a : ByteArray) (h : a.size ≤ 2000000) : path_parts.f a = some (parts a) := by
  unfold path_parts.f
  by_cases hn : a.data.toList = []
  · rw [if_pos ((nil_iff a).2 hn)]
    unfold parts
    rw [if_pos hn]
  · rw [if_neg (fun e => hn ((nil_iff a).1 e)), split_told a h hn]
    rfl
theorem spl_len : ∀ l : List UInt8, (spl l).length ≤ l.length + 1
  | [] => by simp [spl]
  | c :: l => by
    have := spl_len l
    simp only [spl]
    split
    · simp only [List.length_cons]; omega
    · split
      · simp
      · rename_i e; rw [e] at this; simp only [List.length_cons] at this ⊢; omega
theorem parts_len (a : ByteArray) : (parts a).length ≤ a.size + 1 := by
  unfold parts
  split
  · simp
  · rw [List.length_map]; exact spl_len _
end Go.Proofs.YtcmajhdgaeploaaDoor.QPthO
end

section
/- The order of two paths, as it is printed: its plain meaning. -/
namespace Go.Proofs.YtcmajhdgaeploaaDoor.QPthO
open Go.RowKit Go.Proofs.YtcmajhdgaeploaaDoorW.PrintWords Go.Proofs.YtcmajhdgaeploaaDoorW.PrintLast
open Go Go.Proofs.YtcmajhdgaeploaaDoor.PathOrd
theorem compare_l (X Y : List ByteArray) (hX : X.length ≤ 4294967296) : ∀ (k : Nat) (i : Nat), i ≤ X.length → i ≤ Y.length → X.length - i < k → slices_Compare_string_string.l0 k X Y X (X.length : Int) (i : Int) = some (cmpL (X.drop i) (Y.drop i))
  | 0, _, _, _, h => by omega
  | k + 1, i, hi, hj, h => by
    unfold slices_Compare_string_string.l0
    by_cases hx : i < X.length
    · rw [if_pos (by omega), if_pos (by omega), if_pos (by omega)]
      rw [List.drop_eq_getElem_cons hx]
      by_cases hy : i < Y.length
      · rw [if_neg (by omega), if_pos (by omega)]
        rw [List.drop_eq_getElem_cons hy]
        have ex : rdOf ByteArray.empty X (i : Int) = X[i] := by simp [rdOf, List.getD_eq_getElem?_getD, hx]
        have ey : rdOf ByteArray.empty Y (i : Int) = Y[i] := by simp [rdOf, List.getD_eq_getElem?_getD, hy]
        rw [ex, ey]
        unfold cmp_Compare_string.f
        simp only [Option.bind_some, cmpL]
        by_cases e : cmpT X[i] Y[i] = 0
        · rw [if_pos e, if_pos e]
          rw [show wrap64 ((i : Int) + 1) = ((i + 1 : Nat) : Int) by unfold wrap64; omega]
          exact compare_l X Y hX k (i + 1) (by omega) (by omega) (by omega)
        · rw [if_neg e, if_neg e]
      · rw [if_pos (by omega)]
        have : Y.drop i = [] := List.drop_eq_nil_of_le (by omega)
        rw [this]
        rfl
    · rw [if_neg (by omega)]
      have : X.drop i = [] := List.drop_eq_nil_of_le (by omega)
      rw [this]
      by_cases hy : i < Y.length
      · rw [if_pos (by omega), List.drop_eq_getElem_cons hy]
        rfl
      · rw [if_neg (by omega), List.drop_eq_nil_of_le (by omega)]
        rfl
theorem compare_told (k : Nat) (X Y : List ByteArray) (hX : X.length ≤ 4294967296) (hk : X.length < k) : slices_Compare_string_string.f k X Y = some (cmpL X Y) := by
  have h := compare_l X Y hX k 0 (Nat.zero_le _) (Nat.zero_le _) (by omega)
  simpa [slices_Compare_string_string.f] using h
theorem less_told (k : Nat) (a b : ByteArray) (ha : a.size ≤ 2000000) (hb : b.size ≤ 2000000) (hk : a.size + 1 < k) : path_Less.f k a b = some (decide (cmpL (parts a) (parts b) < 0)) := by
  unfold path_Less.f
  have := parts_len a
  rw [parts_told a ha, parts_told b hb]
  simp only [Option.bind_some]
  rw [compare_told k _ _ (by omega) (by omega)]
  rfl
end Go.Proofs.YtcmajhdgaeploaaDoor.QPthO
end

section
/- Names joined, as it is printed: its plain meaning. -/
namespace Go.Proofs.YtcmajhdgaeploaaDoor.QPthO
open Go.RowKit Go.Proofs.YtcmajhdgaeploaaDoorW.PrintWords Go.Proofs.YtcmajhdgaeploaaDoorW.PrintLast
open Go Go.Proofs.YtcmajhdgaeploaaDoor.PathOrd
theorem join_told (L : List ByteArray) (h : total L ≤ 140737488355328) : strings_Join.f L ⟨#[47]⟩ = some (jnT L) := by
  have h1 := jn_len L
  have h2 := total_len L
  unfold strings_Join.f jnT
  rw [show (⟨#[47]⟩ : ByteArray).data.toList = [47] from rfl, jn_join, if_pos ⟨by omega, by omega⟩]
end Go.Proofs.YtcmajhdgaeploaaDoor.QPthO
end

section
/- What is within a path, as it is printed: its plain meaning. -/
namespace Go.Proofs.YtcmajhdgaeploaaDoor.QPthO
open Go.RowKit Go.Proofs.YtcmajhdgaeploaaDoorW.PrintWords Go.Proofs.YtcmajhdgaeploaaDoorW.PrintLast
open Go Go.Proofs.YtcmajhdgaeploaaDoor.PathOrd
theorem equal_l (X Y : List ByteArray) (hX : X.length = Y.length) (hb : X.length ≤ 4294967296) : ∀ (k i : Nat), i ≤ X.length → X.length - i < k → slices_Equal_string_string.l0 k X Y (X.length : Int) (i : Int) = some (decide (X.drop i = Y.drop i))
  | 0, _, _, h => by omega
  | k + 1, i, hi, h => by
    unfold slices_Equal_string_string.l0
    by_cases hx : i < X.length
    · have hy : i < Y.length := by omega
      rw [if_pos (by omega), if_pos (by omega), if_pos (by omega), if_pos (by omega)]
      have ex : rdOf ByteArray.empty X (i : Int) = X[i] := by simp [rdOf, List.getD_eq_getElem?_getD, hx]
      have ey : rdOf ByteArray.empty Y (i : Int) = Y[i] := by simp [rdOf, List.getD_eq_getElem?_getD, hy]
      rw [ex, ey, List.drop_eq_getElem_cons hx, List.drop_eq_getElem_cons hy, ByteArray.toList_eq, ByteArray.toList_eq]
      by_cases e : X[i] = Y[i]
      · rw [if_pos (by rw [e]), show wrap64 ((i : Int) + 1) = ((i + 1 : Nat) : Int) by unfold wrap64; omega, equal_l X Y hX hb k (i + 1) (by omega) (by omega), e]
        congr 1
        apply decide_eq_decide.2
        simp only [List.cons.injEq, true_and]
      · rw [if_neg (fun h => e (eq_of_list h)), decide_eq_false (fun h => e (List.cons.inj h).1)]
    · rw [if_neg (by omega), List.drop_eq_nil_of_le (by omega), List.drop_eq_nil_of_le (by omega)]
      rfl
theorem equal_told (k : Nat) (X Y : List ByteArray) (hb : X.length ≤ 4294967296) (hk : X.length < k) : slices_Equal_string_string.f k X Y = some (decide (X = Y)) := by
  unfold slices_Equal_string_string.f
  by_cases e : (X.length : Int) = (Y.length : Int)
  · rw [if_pos e]
    have h := equal_l X Y (by omega) hb k 0 (Nat.zero_le _) (by omega)
    rw [show ((0 : Nat) : Int) = 0 from rfl] at h
    rw [h]
    simp
  · rw [if_neg e, decide_eq_false (fun h => e (by rw [h]))]
/-- The first is a beginning of the second. -/
def fore (X Y : List ByteArray) : Prop := X.length ≤ Y.length ∧ X = Y.take X.length
instance (X Y : List ByteArray) : Decidable (fore X Y) := inferInstanceAs (Decidable (_ ∧ _))
theorem within_told (k : Nat) (a b : ByteArray) (ha : a.size ≤ 2000000) (hb : b.size ≤ 2000000) (hk : a.size + 2 < k) : path_Within.f k a b = some (if fore (parts a) (parts b) then (jnT ((parts b).drop (parts a).length), true) else (⟨#[]⟩, false)) := by
  have h1 := parts_len a
  have h2 := parts_len b
  unfold path_Within.f
  rw [parts_told a ha, parts_told b hb]
  simp only [Option.bind_some]
  by_cases hl : (parts a).length ≤ (parts b).length
  · rw [if_neg (by omega), if_pos (by omega), if_pos (by omega), Int.toNat_natCast, equal_told k _ _ (by omega) (by omega)]
    simp only [Option.bind_some]
    by_cases he : parts a = (parts b).take (parts a).length
    · rw [if_pos (decide_eq_true he), join_told _ (by have := total_parts b; have := total_drop (parts b) (parts a).length; omega), if_pos (show fore _ _ from ⟨hl, he⟩)]
      rfl
    · rw [if_neg (by rw [decide_eq_false he]; simp), if_neg (fun h => he h.2)]
  · rw [if_pos (by omega), if_neg (fun h => hl h.1)]
end Go.Proofs.YtcmajhdgaeploaaDoor.QPthO
end

section
/- The document's answer for paths: parts, names made into one, lists held against each other: its plain meaning. -/
namespace Go.Proofs.YtcmajhdgaeploaaDoor.QPthO
open Go.RowKit Go.Proofs.YtcmajhdgaeploaaDoorW.PrintWords Go.Proofs.YtcmajhdgaeploaaDoorW.PrintLast
open Go Go.Proofs.YtcmajhdgaeploaaDoor.PathOrd
theorem bt_list (a : ByteArray) (i : Nat) (h : i < a.data.toList.length) (c : UInt8) : (bt a (i : Int) = (c.toNat : Int)) ↔ a.data.toList[i] = c := by
  have hs : i < a.size := by simpa using h
  rw [← bt_at a (i : Int) (by rw [Int.toNat_natCast]; exact hs)]
  have e : a[((i : Int)).toNat]'(by rw [Int.toNat_natCast]; exact hs) = a.data.toList[i] := by
    simp only [Int.toNat_natCast]
    rfl
  rw [e]
  constructor
  · intro h; exact UInt8.toNat_inj.1 (by omega)
  · intro h; rw [h]
theorem refParts_l (a : ByteArray) (ha : a.size ≤ 100000000) : ∀ (k i from_ : Nat) (out : List ByteArray), from_ ≤ i → i ≤ a.size → out.length ≤ i → (∀ x ∈ (a.data.toList.drop from_).take (i - from_), x ≠ 47) → a.size - i + 1 < k →
    garretref17_Parts.l0 k a out (from_ : Int) (i : Int) = some (out ++ (spl (a.data.toList.drop from_)).map fun l => (⟨l.toArray⟩ : ByteArray))
  | 0, _, _, _, _, _, _, _, h => by omega
  | k + 1, i, from_, out, hf, hi, ho, hfree, hk => by
    have hlen : a.data.toList.length = a.size := by simp
    have hex : a.extract (from_ : Int).toNat (i : Int).toNat = ⟨((a.data.toList.drop from_).take (i - from_)).toArray⟩ := by
      apply eq_of_list
      rw [Lib.extract_data]
      simp
    have hw : wrap64 ((i : Int) + 1) = ((i + 1 : Nat) : Int) := by unfold wrap64; omega
    unfold garretref17_Parts.l0
    rw [if_pos (by omega), hw, hex]
    by_cases he : i = a.size
    · subst he
      rw [if_pos rfl, if_pos (by omega), if_pos (by omega), if_pos (by omega)]
      have ht : (a.data.toList.drop from_).take (a.size - from_) = a.data.toList.drop from_ := List.take_of_length_le (by rw [List.length_drop]; omega)
      rw [ht] at hfree ⊢
      obtain ⟨k, rfl⟩ : ∃ q, k = q + 1 := ⟨k - 1, by omega⟩
      unfold garretref17_Parts.l0
      rw [if_neg (by omega), spl_free _ hfree]
      rfl
    · rw [if_neg (by omega), if_pos (by omega), if_pos (by omega)]
      have hil : i < a.data.toList.length := by omega
      have hsplit : a.data.toList.drop from_ = (a.data.toList.drop from_).take (i - from_) ++ a.data.toList[i] :: a.data.toList.drop (i + 1) := by
        have h1 := (List.take_append_drop (i - from_) (a.data.toList.drop from_)).symm
        rw [List.drop_drop, show from_ + (i - from_) = i by omega, List.drop_eq_getElem_cons hil] at h1
        exact h1
      by_cases hc : a.data.toList[i] = 47
      · rw [if_pos (by have := (bt_list a i hil 47).2 hc; exact this), if_pos (by omega), if_pos (by omega), if_pos (by omega)]
        rw [refParts_l a ha k (i + 1) (i + 1) _ (Nat.le_refl _) (by omega) (by simp; omega) (by simp) (by omega)]
        generalize List.take (i - from_) (List.drop from_ a.data.toList) = C at hfree hsplit ⊢
        rw [hsplit, hc, spl_at _ _ hfree]
        simp
      · rw [if_neg (by intro h; exact hc ((bt_list a i hil 47).1 h))]
        refine refParts_l a ha k (i + 1) from_ out (by omega) (by omega) (by omega) ?_ (by omega)
        intro x hx
        have : (a.data.toList.drop from_).take (i + 1 - from_) = (a.data.toList.drop from_).take (i - from_) ++ [a.data.toList[i]] := by
          rw [show i + 1 - from_ = (i - from_) + 1 by omega, List.take_add_one, List.getElem?_drop, show from_ + (i - from_) = i by omega, List.getElem?_eq_getElem hil]
          rfl
        rw [this] at hx
        rcases List.mem_append.1 hx with h | h
        · exact hfree x h
        · rw [List.mem_singleton.1 h]; exact hc
theorem refParts_told (k : Nat) (a : ByteArray) (ha : a.size ≤ 100000000) (hk : a.size + 1 < k) : garretref17_Parts.f k a = some (parts a) := by
  unfold garretref17_Parts.f parts
  by_cases hn : a.data.toList = []
  · rw [if_pos ((nil_iff a).2 hn), if_pos hn]
  · rw [if_neg (fun e => hn ((nil_iff a).1 e)), if_neg hn]
    have h := refParts_l a ha k 0 0 [] (Nat.le_refl _) (Nat.zero_le _) (Nat.zero_le _) (by simp) (by omega)
    rw [show ((0 : Nat) : Int) = 0 from rfl] at h
    rw [h]
    rfl
theorem made_l (L : List ByteArray) (hL : total L ≤ 1000000000) : ∀ (k i : Nat) (x : ByteArray), i ≤ L.length → x = jnT (L.take i) → L.length - i < k → garretref17_Made.l0 k L x (i : Int) = some (jnT L)
  | 0, _, _, _, _, h => by omega
  | k + 1, i, x, hi, hx, hk => by
    have htl := total_len L
    unfold garretref17_Made.l0
    by_cases hlt : i < L.length
    · rw [if_pos (by omega)]
      have ex : rdOf ByteArray.empty L (i : Int) = L[i] := by simp [rdOf, List.getD_eq_getElem?_getD, hlt]
      have hxs : x.size ≤ 1000000000 := by
        have h1 := jnT_size (L.take i)
        have h2 := total_take L i
        rw [hx]; omega
      have hts : L.take (i + 1) = L.take i ++ [L[i]] := by rw [List.take_add_one, List.getElem?_eq_getElem hlt]; rfl
      have hes : L[i].size ≤ 1000000000 := by
        have h1 := total_append (L.take i) (L.drop i)
        rw [List.take_append_drop, List.drop_eq_getElem_cons hlt] at h1
        simp only [total] at h1
        omega
      rw [ex, show wrap64 ((i : Int) + 1) = ((i + 1 : Nat) : Int) by unfold wrap64; omega]
      by_cases h0 : i = 0
      · subst h0
        rw [if_neg (by omega), if_pos (by omega), if_pos (by omega)]
        refine made_l L hL k 1 _ (by omega) ?_ (by omega)
        rw [hts, hx]
        simp only [List.take_zero, List.nil_append]
        rw [jnT_one, jnT_nil]
        apply eq_of_list
        simp
      · have hne : L.take i ≠ [] := fun e => by
          have := congrArg List.length e
          rw [List.length_take, List.length_nil] at this
          omega
        rw [if_pos (by omega), if_pos (by omega), if_pos (by omega), if_pos (by rw [ByteArray.size_append, show (⟨#[47]⟩ : ByteArray).size = 1 from rfl]; omega)]
        refine made_l L hL k (i + 1) _ (by omega) ?_ (by omega)
        rw [hts, jnT_snoc _ _ hne, hx]
    · rw [if_neg (by omega), hx, List.take_of_length_le (by omega)]
theorem made_told (k : Nat) (L : List ByteArray) (hL : total L ≤ 1000000000) (hk : L.length < k) : garretref17_Made.f k L = some (jnT L) := by
  have h := made_l L hL k 0 ⟨#[]⟩ (Nat.zero_le _) (by rw [List.take_zero, jnT_nil]) (by omega)
  rw [show ((0 : Nat) : Int) = 0 from rfl] at h
  exact h
theorem same_l (L : List ByteArray) (hL : L.length ≤ 100000000) : ∀ (k i : Nat), i ≤ L.length → L.length - i < k → garretbook_SameTexts.l0 k L L (i : Int) = some true
  | 0, _, _, h => by omega
  | k + 1, i, hi, hk => by
    unfold garretbook_SameTexts.l0
    by_cases hlt : i < L.length
    · rw [if_pos (by omega), if_pos (by omega), if_pos (by omega), if_pos rfl, show wrap64 ((i : Int) + 1) = ((i + 1 : Nat) : Int) by unfold wrap64; omega]
      exact same_l L hL k (i + 1) (by omega) (by omega)
    · rw [if_neg (by omega)]
theorem same_told (k : Nat) (L : List ByteArray) (hL : L.length ≤ 100000000) (hk : L.length < k) : garretbook_SameTexts.f k L L = some true := by
  unfold garretbook_SameTexts.f
  rw [if_pos rfl]
  exact same_l L hL k 0 (Nat.zero_le _) (by omega)
theorem spoil_l : ∀ (k : Nat) (L : List ByteArray) (i : Nat), L.length ≤ 100000000 → i ≤ L.length → L.length - i < k → ∃ z, garretbook_SpoilTexts.l0 k L (i : Int) = some z
  | 0, _, _, _, _, h => by omega
  | k + 1, L, i, hL, hi, hk => by
    unfold garretbook_SpoilTexts.l0
    by_cases hlt : i < L.length
    · rw [if_pos (by omega), if_pos (by omega), show wrap64 ((i : Int) + 1) = ((i + 1 : Nat) : Int) by unfold wrap64; omega]
      exact spoil_l k _ (i + 1) (by rw [List.length_set]; exact hL) (by rw [List.length_set]; omega) (by rw [List.length_set]; omega)
    · rw [if_neg (by omega)]
      exact ⟨_, rfl⟩
theorem spoil_told (k : Nat) (L : List ByteArray) (hL : L.length ≤ 100000000) (hk : L.length < k) : ∃ z, garretbook_SpoilTexts.f k L = some z := spoil_l k L 0 hL (Nat.zero_le _) (by omega)
end Go.Proofs.YtcmajhdgaeploaaDoor.QPthO
end

section
/- The document's answer for what is within a path, which of two stands ahead, and a list in order: its plain meaning. -/
namespace Go.Proofs.YtcmajhdgaeploaaDoor.QPthO
open Go.RowKit Go.Proofs.YtcmajhdgaeploaaDoorW.PrintWords Go.Proofs.YtcmajhdgaeploaaDoorW.PrintLast
open Go Go.Proofs.YtcmajhdgaeploaaDoor.PathOrd
set_option linter.unusedSimpArgs false
theorem refWithin_l (X Y : List ByteArray) (hX : X.length ≤ Y.length) (hb : Y.length ≤ 100000000) (ht : total Y ≤ 1000000000) : ∀ (k i : Nat), i ≤ X.length → X.take i = Y.take i → X.length - i + Y.length + 2 < k → garretref17_Within.l0 k X Y (i : Int) = some (if fore X Y then (jnT (Y.drop X.length), true) else (⟨#[]⟩, false))
  | 0, _, _, _, h => by omega
  | k + 1, i, hi, he, hk => by
    unfold garretref17_Within.l0
    by_cases hx : i < X.length
    · have hy : i < Y.length := by omega
      have ex : rdOf ByteArray.empty X (i : Int) = X[i] := by simp [rdOf, List.getD_eq_getElem?_getD, hx]
      have ey : rdOf ByteArray.empty Y (i : Int) = Y[i] := by simp [rdOf, List.getD_eq_getElem?_getD, hy]
      rw [if_pos (by omega), if_pos (by omega), if_pos (by omega), ex, ey, ByteArray.toList_eq, ByteArray.toList_eq]
      by_cases e : X[i] = Y[i]
      · rw [if_pos (by rw [e]), show wrap64 ((i : Int) + 1) = ((i + 1 : Nat) : Int) by unfold wrap64; omega]
        refine refWithin_l X Y hX hb ht k (i + 1) (by omega) ?_ (by omega)
        rw [List.take_add_one, List.take_add_one, he, List.getElem?_eq_getElem hx, List.getElem?_eq_getElem hy, e]
      · rw [if_neg (fun h => e (eq_of_list h)), if_neg]
        intro hf
        apply e
        have h2 := congrArg (fun l => l[i]?) hf.2
        simp only [List.getElem?_take, List.getElem?_eq_getElem hx, List.getElem?_eq_getElem hy, if_pos hx, Option.some.injEq] at h2
        exact h2
    · obtain rfl : i = X.length := by omega
      have hd := total_drop Y X.length
      rw [if_neg (by omega), if_pos (by omega), if_pos (by omega), Int.toNat_natCast, made_told k _ (by omega) (by rw [List.length_drop]; omega), if_pos (show fore X Y from ⟨hX, by rw [← he, List.take_length]⟩)]
      rfl
theorem refWithin_told (k : Nat) (a b : ByteArray) (ha : a.size ≤ 100000) (hb : b.size ≤ 100000) (hk : a.size + b.size + 10 < k) : garretref17_Within.f k a b = some (if fore (parts a) (parts b) then (jnT ((parts b).drop (parts a).length), true) else (⟨#[]⟩, false)) := by
  have h1 := parts_len a
  have h2 := parts_len b
  have h3 := total_parts b
  unfold garretref17_Within.f
  rw [refParts_told k a (by omega) (by omega), refParts_told k b (by omega) (by omega)]
  simp only [Option.bind_some]
  by_cases hl : (parts a).length ≤ (parts b).length
  · rw [if_neg (by omega)]
    exact refWithin_l _ _ hl (by omega) (by omega) k 0 (Nat.zero_le _) rfl (by omega)
  · rw [if_pos (by omega), if_neg (fun h => hl h.1)]
theorem refLess_l (X Y : List ByteArray) (hX : X.length ≤ 100000000) : ∀ (m k i : Nat), X.length - i = m → i ≤ X.length → i ≤ Y.length → 2 * m + 3 < k → garretref17_Less.l0 k X Y (i : Int) = some (decide (cmpL (X.drop i) (Y.drop i) < 0)) := by
  intro m
  induction m with
  | zero =>
    intro k i hm hi hj hk
    obtain ⟨k, rfl⟩ : ∃ q, k = q + 2 := ⟨k - 2, by omega⟩
    unfold garretref17_Less.l0
    rw [if_neg (by omega)]
    unfold garretref17_Less.j1
    rw [if_neg (by simp), List.drop_eq_nil_of_le (by omega)]
    congr 1
    apply decide_eq_decide.2
    by_cases hy : i < Y.length
    · rw [List.drop_eq_getElem_cons hy]
      exact ⟨fun _ => by simp [cmpL], fun _ => by omega⟩
    · rw [List.drop_eq_nil_of_le (by omega)]
      exact ⟨fun h => by omega, fun h => by simp [cmpL] at h⟩
  | succ m ih =>
    intro k i hm hi hj hk
    obtain ⟨k, rfl⟩ : ∃ q, k = q + 2 := ⟨k - 2, by omega⟩
    have hx : i < X.length := by omega
    have ex : rdOf ByteArray.empty X (i : Int) = X[i] := by simp [rdOf, List.getD_eq_getElem?_getD, hx]
    rw [List.drop_eq_getElem_cons hx]
    unfold garretref17_Less.l0
    rw [if_pos (by omega)]
    unfold garretref17_Less.j1
    by_cases hy : i < Y.length
    · have ey : rdOf ByteArray.empty Y (i : Int) = Y[i] := by simp [rdOf, List.getD_eq_getElem?_getD, hy]
      rw [if_pos (decide_eq_true (by omega)), if_pos (by omega), if_pos (by omega), if_pos (by omega), ex, ey, ByteArray.toList_eq, ByteArray.toList_eq, List.drop_eq_getElem_cons hy]
      have ec : cmpL (X[i] :: X.drop (i + 1)) (Y[i] :: Y.drop (i + 1)) = if cmpT X[i] Y[i] = 0 then cmpL (X.drop (i + 1)) (Y.drop (i + 1)) else cmpT X[i] Y[i] := rfl
      by_cases e : X[i] = Y[i]
      · rw [if_pos (show cmpT X[i] Y[i] = 0 by rw [e]; exact cmpT_self _)] at ec
        rw [ec, if_pos (by rw [e]), show wrap64 ((i : Int) + 1) = ((i + 1 : Nat) : Int) by unfold wrap64; omega]
        exact ih k (i + 1) (by omega) (by omega) (by omega) (by omega)
      · rw [if_neg (show ¬ cmpT X[i] Y[i] = 0 from fun h => e (cmpT_zero h))] at ec
        rw [ec, if_neg (fun h => e (eq_of_list h))]
        congr 1
        have := cmpT_neg (x := X[i]) (y := Y[i])
        cases h : Op.bytesLess X[i].data.toList Y[i].data.toList with
        | true => rw [h] at this; exact (decide_eq_true (this.2 rfl)).symm
        | false => rw [h] at this; exact (decide_eq_false (fun q => by have := this.1 q; cases this)).symm
    · rw [if_neg (by rw [decide_eq_false (by omega)]; simp), List.drop_eq_nil_of_le (by omega : Y.length ≤ i), decide_eq_false (by omega)]
      simp [cmpL]
theorem refLess_told (k : Nat) (a b : ByteArray) (ha : a.size ≤ 100000) (hb : b.size ≤ 100000) (hk : 2 * a.size + b.size + 10 < k) : garretref17_Less.f k a b = some (decide (cmpL (parts a) (parts b) < 0)) := by
  have h1 := parts_len a
  unfold garretref17_Less.f
  rw [refParts_told k a (by omega) (by omega), refParts_told k b (by omega) (by omega)]
  simp only [Option.bind_some]
  have h := refLess_l (parts a) (parts b) (by omega) _ k 0 rfl (Nat.zero_le _) (Nat.zero_le _) (by omega)
  exact h
theorem insT_len (x : ByteArray) (l : List ByteArray) : (insT x l).length = l.length + 1 := by rw [(insT_perm x l).length_eq]; rfl
theorem insT_cons (x y : ByteArray) (r : List ByteArray) : insT x (y :: r) = if cmpL (parts x) (parts y) < 0 then x :: y :: r else y :: insT x r := rfl
theorem insT_nil (x : ByteArray) : insT x [] = [x] := rfl
theorem w64s (i : Nat) (h : i ≤ 1000000) : wrap64 ((i : Int) + 1) = ((i + 1 : Nat) : Int) := by unfold wrap64; omega
theorem rdAt (X : List ByteArray) (i : Nat) (h : i < X.length) : rdOf ByteArray.empty X (i : Int) = X[i] := by simp [rdOf, List.getD_eq_getElem?_getD, h]
/-- What a round of the inserting loop tells at its two ends. -/
theorem ins_end (X acc : List ByteArray) (i : Nat) (hi : i < X.length) (hX : X.length ≤ 1000) (ha : acc.length ≤ 1000) (k : Nat) : garretref17_Sort.l1 (k + 1) X acc (i : Int) (acc.length : Int) = garretref17_Sort.l0 k X (acc ++ [X[i]]) ((i + 1 : Nat) : Int) := by
  have c1 : ¬ (acc.length : Int) < (acc.length : Int) := Int.lt_irrefl _
  have c2 : (0 : Int) ≤ (acc.length : Int) := Int.natCast_nonneg _
  have c3 : (acc.length : Int) ≤ (acc.length : Int) := Int.le_refl _
  have c4 : (0 : Int) ≤ (i : Int) := Int.natCast_nonneg _
  have c5 : (i : Int) < (X.length : Int) := Int.ofNat_lt.2 hi
  have c6 : ([] : List ByteArray).length + acc.length < 8796093022208 := by rw [List.length_nil]; omega
  have c7 : acc.length < 8796093022208 := by omega
  have c8 : (acc ++ [X[i]]).length + ([] : List ByteArray).length < 8796093022208 := by rw [List.length_append, List.length_singleton, List.length_nil]; omega
  unfold garretref17_Sort.l1
  rw [if_neg c1, if_pos c2, if_pos c3, Int.toNat_natCast, List.take_length, Option.bind_some, if_pos c6, Option.bind_some, List.nil_append, if_pos c4, if_pos c5, if_pos c7, rdAt X i hi, Option.bind_some, List.drop_length, Option.bind_some, if_pos c8, List.append_nil, w64s i (by omega)]
theorem ins_step (X acc : List ByteArray) (i j : Nat) (hi : i < X.length) (hj : j < acc.length) (hX : X.length ≤ 1000) (ha : acc.length ≤ 1000) (hz : (X[i]).size ≤ 5000) (hs : (acc[j]).size ≤ 5000) (k : Nat) (hk : 20000 ≤ k) :
    garretref17_Sort.l1 (k + 1) X acc (i : Int) (j : Int) = if cmpL (parts X[i]) (parts acc[j]) < 0 then garretref17_Sort.l0 k X (acc.take j ++ [X[i]] ++ acc.drop j) ((i + 1 : Nat) : Int) else garretref17_Sort.l1 k X acc (i : Int) ((j + 1 : Nat) : Int) := by
  have c1 : (j : Int) < (acc.length : Int) := Int.ofNat_lt.2 hj
  have c2 : (0 : Int) ≤ (i : Int) := Int.natCast_nonneg _
  have c3 : (i : Int) < (X.length : Int) := Int.ofNat_lt.2 hi
  have c4 : (0 : Int) ≤ (j : Int) := Int.natCast_nonneg _
  have c5 : (j : Int) ≤ (acc.length : Int) := Int.le_of_lt c1
  have htl : (acc.take j).length = j := by rw [List.length_take]; omega
  have hdl : (acc.drop j).length = acc.length - j := List.length_drop
  have c6 : ([] : List ByteArray).length + (acc.take j).length < 8796093022208 := by rw [List.length_nil, htl]; omega
  have c7 : (acc.take j).length < 8796093022208 := by rw [htl]; omega
  have c8 : (acc.take j ++ [X[i]]).length + (acc.drop j).length < 8796093022208 := by rw [List.length_append, List.length_singleton, htl, hdl]; omega
  have hL := refLess_told k X[i] acc[j] (by omega) (by omega) (by omega)
  obtain ⟨T, hT⟩ : ∃ T, T = garretref17_Sort.l1 k X acc (i : Int) ((j + 1 : Nat) : Int) := ⟨_, rfl⟩
  rw [← hT]
  unfold garretref17_Sort.l1
  rw [if_pos c1, if_pos c2, if_pos c3, if_pos c4, rdAt X i hi, rdAt acc j hj, hL, w64s i (by omega), w64s j (by omega), Option.bind_some, Int.toNat_natCast]
  by_cases c : cmpL (parts X[i]) (parts acc[j]) < 0
  · rw [decide_eq_true c, if_pos rfl, if_pos c, if_pos c5, Option.bind_some, if_pos c6, Option.bind_some, List.nil_append, if_pos c7, Option.bind_some, Option.bind_some, if_pos c8]
  · rw [decide_eq_false c, if_neg (by simp), if_neg c, hT]
theorem refSort_in (X acc : List ByteArray) (i : Nat) (hi : i < X.length) (hX : X.length ≤ 1000) (ha : acc.length ≤ 1000) (hz : (X[i]).size ≤ 5000) (hza : ∀ y ∈ acc, y.size ≤ 5000) (R : List ByteArray) (k0 : Nat) (hk0 : 20000 ≤ k0)
    (H : ∀ k', k0 ≤ k' → garretref17_Sort.l0 k' X (insT X[i] acc) ((i + 1 : Nat) : Int) = some R) : ∀ (d j : Nat), acc.length - j = d → j ≤ acc.length → insT X[i] acc = acc.take j ++ insT X[i] (acc.drop j) → ∀ k, k0 + d + 1 ≤ k → garretref17_Sort.l1 k X acc (i : Int) (j : Int) = some R := by
  intro d
  induction d with
  | zero =>
    intro j hd hj he k hk
    obtain ⟨k, rfl⟩ : ∃ q, k = q + 1 := ⟨k - 1, by omega⟩
    obtain rfl : j = acc.length := by omega
    rw [List.take_length, List.drop_length, insT_nil] at he
    rw [ins_end X acc i hi hX ha k, ← he]
    exact H k (by omega)
  | succ d ih =>
    intro j hd hj he k hk
    obtain ⟨k, rfl⟩ : ∃ q, k = q + 1 := ⟨k - 1, by omega⟩
    have hjl : j < acc.length := by omega
    rw [ins_step X acc i j hi hjl hX ha hz (hza _ (List.getElem_mem hjl)) k (by omega)]
    rw [List.drop_eq_getElem_cons hjl, insT_cons] at he
    by_cases c : cmpL (parts X[i]) (parts acc[j]) < 0
    · rw [if_pos c] at he ⊢
      have h := H k (by omega)
      rw [he] at h
      rw [List.drop_eq_getElem_cons hjl, List.append_assoc]
      exact h
    · rw [if_neg c] at he ⊢
      refine ih (j + 1) (by omega) (by omega) ?_ k (by omega)
      rw [List.take_add_one, List.getElem?_eq_getElem hjl, List.append_assoc]
      exact he
theorem refSort_l (X : List ByteArray) (hX : X.length ≤ 1000) (hz : ∀ x ∈ X, x.size ≤ 5000) : ∀ (m i : Nat) (acc : List ByteArray), X.length - i = m → i ≤ X.length → acc.length = i → (∀ y ∈ acc, y.size ≤ 5000) → ∀ k, m * (X.length + 4) + 20002 ≤ k →
    garretref17_Sort.l0 k X acc (i : Int) = some ((X.drop i).foldl (fun acc x => insT x acc) acc) := by
  intro m
  induction m with
  | zero =>
    intro i acc hm hi ha hza k hk
    obtain ⟨k, rfl⟩ : ∃ q, k = q + 1 := ⟨k - 1, by omega⟩
    unfold garretref17_Sort.l0
    rw [if_neg (by omega), List.drop_eq_nil_of_le (by omega)]
    rfl
  | succ m ih =>
    intro i acc hm hi ha hza k hk
    rw [Nat.succ_mul] at hk
    obtain ⟨k, rfl⟩ : ∃ q, k = q + 1 := ⟨k - 1, by omega⟩
    have hx : i < X.length := by omega
    have hzi := hz _ (List.getElem_mem hx)
    unfold garretref17_Sort.l0
    rw [if_pos (by omega), List.drop_eq_getElem_cons hx, List.foldl_cons]
    refine refSort_in X acc i hx hX (by omega) hzi hza _ (m * (X.length + 4) + 20002) (by omega) (fun k' hk' => ?_) acc.length 0 (Nat.sub_zero _) (Nat.zero_le _) rfl k (by omega)
    refine ih (i + 1) _ (by omega) (by omega) (by rw [insT_len]; omega) (fun y hy => ?_) k' hk'
    rcases List.mem_cons.1 ((insT_perm _ _).mem_iff.1 hy) with rfl | h
    · exact hzi
    · exact hza y h
theorem refSort_told (k : Nat) (X : List ByteArray) (hX : X.length ≤ 200) (hz : ∀ x ∈ X, x.size ≤ 5000) (hk : 100000 ≤ k) : garretref17_Sort.f k X = some (isort X) := by
  have hm : X.length * (X.length + 4) ≤ 200 * 204 := Nat.mul_le_mul hX (by omega)
  exact refSort_l X (by omega) hz X.length 0 [] (Nat.sub_zero _) (Nat.zero_le _) rfl (fun y hy => by cases hy) k (by omega)
end Go.Proofs.YtcmajhdgaeploaaDoor.QPthO
end

