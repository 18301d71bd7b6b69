/- A text cut at its slashes, and put together: plain. -/
import Derived.Lib.SplitLaws
import Derived.Lib.IndexBytes
import Derived.Lib.Join
import Derived.Test.YtcmajhdgaeploaaDoorYPathOrd
namespace Go.Proofs.YtcmajhdgaeploaaDoor.PathOrd
open Go
/-- What stands between slashes. -/
def spl : List UInt8 → List (List UInt8)
  | [] => [[]]
  | c :: l => if c = 47 then [] :: spl l else match spl l with
    | [] => [[c]]
    | h :: t => (c :: h) :: t
theorem spl_ne : ∀ l, spl l ≠ []
  | [] => by simp [spl]
  | c :: l => by
    simp only [spl]
    split
    · simp
    · split <;> simp
theorem spl_free : ∀ (A : List UInt8), (∀ x ∈ A, x ≠ 47) → spl A = [A]
  | [], _ => rfl
  | c :: A, h => by
    have hc : c ≠ 47 := h c (by simp)
    simp only [spl]
    rw [if_neg hc, spl_free A (fun x hx => h x (by simp [hx]))]
theorem spl_at : ∀ (A R : List UInt8), (∀ x ∈ A, x ≠ 47) → spl (A ++ 47 :: R) = A :: spl R
  | [], R, _ => by simp [spl]
  | c :: A, R, h => by
    have hc : c ≠ 47 := h c (by simp)
    rw [List.cons_append]
    simp only [spl]
    rw [if_neg hc, spl_at A R (fun x hx => h x (by simp [hx]))]
theorem spl_parts : ∀ (l : List UInt8), (∀ x ∈ l, x ≠ 47) ∨ ∃ A R, l = A ++ 47 :: R ∧ ∀ x ∈ A, x ≠ 47
  | [] => .inl (by simp)
  | c :: l => by
    by_cases hc : c = 47
    · subst hc
      exact .inr ⟨[], l, rfl, by simp⟩
    · rcases spl_parts l with h | ⟨A, R, rfl, h⟩
      · refine .inl (fun x hx => ?_)
        rcases List.mem_cons.1 hx with rfl | hx
        · exact hc
        · exact h x hx
      · refine .inr ⟨c :: A, R, rfl, fun x hx => ?_⟩
        rcases List.mem_cons.1 hx with rfl | hx
        · exact hc
        · exact h x hx
theorem idx_at (c : UInt8) : ∀ (A R : List UInt8), (∀ x ∈ A, x ≠ c) → Lib.index (A ++ c :: R) [c] = A.length := by
  intro A
  induction A with
  | nil => intro R _; simp [Lib.index, List.isPrefixOf]
  | cons b A ih =>
    intro R h
    have hb : b ≠ c := h b (by simp)
    have hi := ih R (fun x hx => h x (by simp [hx]))
    have h0 : [c].isPrefixOf (b :: (A ++ c :: R)) = false := by simp [List.isPrefixOf]; exact fun e => hb e.symm
    rw [List.cons_append, Lib.index, h0, hi]
    have : ((A.length : Int) == -1) = false := by rw [beq_eq_false_iff_ne]; omega
    rw [this]; simp
theorem idx_none (c : UInt8) : ∀ (A : List UInt8), (∀ x ∈ A, x ≠ c) → Lib.index A [c] = -1 := by
  intro A
  induction A with
  | nil => intro _; rfl
  | cons b A ih =>
    intro h
    have hb : b ≠ c := h b (by simp)
    have hi := ih (fun x hx => h x (by simp [hx]))
    have h0 : [c].isPrefixOf (b :: A) = false := by simp [List.isPrefixOf]; exact fun e => hb e.symm
    rw [Lib.index, h0, hi]; rfl
theorem split_spl : ∀ (n : Nat) (l : List UInt8), l.length ≤ n → Lib.splitK [47] 0 (Lib.count l [47]) l = spl l := by
  intro n
  induction n with
  | zero =>
    intro l h
    obtain rfl := List.eq_nil_of_length_eq_zero (Nat.le_zero.1 h)
    rw [Lib.count_miss (idx_none 47 [] (by simp))]
    rfl
  | succ n ih =>
    intro l h
    rcases spl_parts l with hf | ⟨A, R, rfl, hA⟩
    · rw [Lib.count_miss (idx_none 47 l hf), spl_free l hf]
      rfl
    · have hc : Lib.count (A ++ 47 :: R) [47] = 1 + Lib.count R [47] := by
        rw [Lib.count_hit (by simp) (idx_at 47 A R hA)]
        simp
      have hn : ((A.length : Int) == -1) = false := by rw [beq_eq_false_iff_ne]; omega
      rw [hc, Nat.add_comm, Lib.splitK, idx_at 47 A R hA, hn]
      simp only [Bool.false_eq_true, if_false, Int.toNat_natCast, Nat.add_zero, List.length_singleton]
      rw [List.take_left, show A ++ 47 :: R = (A ++ [47]) ++ R by simp, List.drop_left' (by simp), ih R (by simp at h; omega)]
      rw [show (A ++ [47]) ++ R = A ++ 47 :: R by simp, spl_at A R hA]
/-- With slashes between. -/
def jn : List (List UInt8) → List UInt8
  | [] => []
  | [x] => x
  | x :: y :: r => x ++ 47 :: jn (y :: r)
theorem jn_join : ∀ L, Lib.join L [47] = jn L
  | [] => rfl
  | [x] => by simp [Lib.join, List.intercalate, jn]
  | x :: y :: r => by
    have h := jn_join (y :: r)
    simp only [Lib.join] at h ⊢
    rw [jn, ← h]
    simp [List.intercalate]
theorem jn_cons (x : List UInt8) (L : List (List UInt8)) (h : L ≠ []) : jn (x :: L) = x ++ 47 :: jn L := by
  cases L with
  | nil => exact absurd rfl h
  | cons y r => rfl
theorem jn_spl : ∀ l, jn (spl l) = l
  | [] => rfl
  | c :: l => by
    have ih := jn_spl l
    have hn := spl_ne l
    simp only [spl]
    by_cases hc : c = 47
    · rw [if_pos hc, jn_cons _ _ hn, ih, hc]
      rfl
    · rw [if_neg hc]
      cases hs : spl l with
      | nil => exact absurd hs hn
      | cons h t =>
        rw [hs] at ih
        simp only
        cases t with
        | nil => simp only [jn] at ih ⊢; rw [ih]
        | cons y r => simp only [jn] at ih ⊢; rw [← ih]; rfl
theorem spl_inj {l m : List UInt8} (h : spl l = spl m) : l = m := by rw [← jn_spl l, h, jn_spl]
/-- A path's parts: none of the empty text. -/
def parts (p : ByteArray) : List ByteArray := if p.data.toList = [] then [] else (spl p.data.toList).map fun l => ⟨l.toArray⟩
theorem parts_list (p : ByteArray) (h : p.data.toList ≠ []) : (parts p).map (·.data.toList) = spl p.data.toList := by
  unfold parts
  rw [if_neg h, List.map_map]
  exact List.map_id'' (fun _ => rfl) _
theorem parts_inj {p q : ByteArray} (h : parts p = parts q) : p = q := by
  apply eq_of_list
  by_cases hp : p.data.toList = []
  · by_cases hq : q.data.toList = []
    · rw [hp, hq]
    · exfalso
      unfold parts at h
      rw [if_pos hp, if_neg hq] at h
      exact spl_ne _ (List.map_eq_nil_iff.1 h.symm)
  · by_cases hq : q.data.toList = []
    · exfalso
      unfold parts at h
      rw [if_neg hp, if_pos hq] at h
      exact spl_ne _ (List.map_eq_nil_iff.1 h)
    · have h2 := congrArg (List.map (·.data.toList)) h
      rw [parts_list p hp, parts_list q hq] at h2
      exact spl_inj h2
/-- What the shelf's cutting tells. -/
theorem splitB_parts (p : ByteArray) (h : p.data.toList ≠ []) : Lib.splitB ⟨#[47]⟩ 0 (Lib.countB p ⟨#[47]⟩) p = parts p := by
  have hd := Lib.splitB_data ⟨#[47]⟩ 0 (Lib.countB p ⟨#[47]⟩) p
  replace hd : (Lib.splitB ⟨#[47]⟩ 0 (Lib.countB p ⟨#[47]⟩) p).map (·.data.toList) = spl p.data.toList := hd.trans (split_spl _ _ (Nat.le_refl _))
  rw [← parts_list p h] at hd
  generalize Lib.splitB ⟨#[47]⟩ 0 (Lib.countB p ⟨#[47]⟩) p = L at hd ⊢
  have e : ∀ M : List ByteArray, M = (M.map (·.data.toList)).map (fun l => (⟨l.toArray⟩ : ByteArray)) := fun M => by rw [List.map_map]; exact (List.map_id'' (fun _ => rfl) M).symm
  rw [e L, hd, ← e (parts p)]
theorem jn_snoc : ∀ (L : List (List UInt8)) (x : List UInt8), L ≠ [] → jn (L ++ [x]) = jn L ++ 47 :: x
  | [], _, h => absurd rfl h
  | [a], x, _ => rfl
  | a :: b :: r, x, _ => by
    have ih := jn_snoc (b :: r) x (by simp)
    rw [List.cons_append, jn_cons a _ (by simp), ih, jn_cons a (b :: r) (by simp)]
    simp
end Go.Proofs.YtcmajhdgaeploaaDoor.PathOrd
