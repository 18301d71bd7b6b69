/- Paths in order: the list that a sort makes, and that no other is in order: plain. -/
import Derived.Test.YtcmajhdgaeploaaDoorYPathSpl
import Derived.Test.YtcmajhdgaeploaaDoorYStabPl
namespace Go.Proofs.YtcmajhdgaeploaaDoor.PathOrd
open Go
set_option linter.unusedVariables false
/-- Not ahead the other way. -/
def leT (x y : ByteArray) : Prop := ¬ cmpL (parts y) (parts x) < 0
theorem leT_anti {x y : ByteArray} (h1 : leT x y) (h2 : leT y x) : x = y := by
  unfold leT at h1 h2
  have := cmpL_swap (parts x) (parts y)
  exact parts_inj (cmpL_zero (by omega))
theorem leT_trans {x y z : ByteArray} (h1 : leT x y) (h2 : leT y z) : leT x z := by
  unfold leT at *
  intro h
  have s1 := cmpL_swap (parts x) (parts y)
  have s2 := cmpL_swap (parts y) (parts z)
  by_cases e : cmpL (parts y) (parts z) < 0
  · exact h1 (cmpL_trans _ _ _ e h)
  · have : parts y = parts z := cmpL_zero (by omega)
    rw [this] at h1
    exact h1 h
/-- A text put behind all that it is not ahead of. -/
def insT (x : ByteArray) : List ByteArray → List ByteArray
  | [] => [x]
  | y :: r => if cmpL (parts x) (parts y) < 0 then x :: y :: r else y :: insT x r
def isort (l : List ByteArray) : List ByteArray := l.foldl (fun acc x => insT x acc) []
theorem insT_perm (x : ByteArray) : ∀ l, (insT x l).Perm (x :: l)
  | [] => List.Perm.refl _
  | y :: r => by
    unfold insT
    split
    · exact List.Perm.refl _
    · exact ((insT_perm x r).cons y).trans (List.Perm.swap x y r)
theorem insT_sorted (x : ByteArray) : ∀ {l : List ByteArray}, l.Pairwise leT → (insT x l).Pairwise leT
  | [], _ => by simp [insT]
  | y :: r, h => by
    unfold insT
    split
    · rename_i c
      refine List.Pairwise.cons (fun z hz => ?_) h
      have hxy : leT x y := fun e => by have := cmpL_swap (parts x) (parts y); omega
      rcases List.mem_cons.1 hz with rfl | hz
      · exact hxy
      · exact leT_trans hxy (List.rel_of_pairwise_cons h hz)
    · rename_i c
      refine List.Pairwise.cons (fun z hz => ?_) (insT_sorted x h.tail)
      rcases List.mem_cons.1 ((insT_perm x r).mem_iff.1 hz) with rfl | hz
      · exact c
      · exact List.rel_of_pairwise_cons h hz
theorem fold_perm : ∀ (l acc : List ByteArray), (l.foldl (fun acc x => insT x acc) acc).Perm (l ++ acc)
  | [], acc => List.Perm.refl _
  | x :: l, acc => by
    refine (fold_perm l (insT x acc)).trans ?_
    refine ((insT_perm x acc).append_left l).trans ?_
    exact List.perm_middle
theorem fold_sorted : ∀ (l acc : List ByteArray), acc.Pairwise leT → (l.foldl (fun acc x => insT x acc) acc).Pairwise leT
  | [], acc, h => h
  | x :: l, acc, h => fold_sorted l _ (insT_sorted x h)
theorem isort_perm (l : List ByteArray) : (isort l).Perm l := by have := fold_perm l []; rwa [List.append_nil] at this
theorem isort_sorted (l : List ByteArray) : (isort l).Pairwise leT := fold_sorted l [] List.Pairwise.nil
theorem isort_only {l m : List ByteArray} (hp : m.Perm l) (hs : m.Pairwise leT) : m = isort l :=
  List.Perm.eq_of_pairwise (fun a b _ _ => leT_anti) hs (isort_sorted l) (hp.trans (isort_perm l).symm)
/-- How two numbers' paths stand. -/
def ordN (l : List ByteArray) (x y : Int) : Int := cmpL (parts (l.getD x.toNat ⟨#[]⟩)) (parts (l.getD y.toNat ⟨#[]⟩))
theorem ordN_nice (l : List ByteArray) : Stab.Nice (ordN l) where
  asym := fun x y h => by
    unfold ordN at *
    have := cmpL_swap (parts (l.getD x.toNat ⟨#[]⟩)) (parts (l.getD y.toNat ⟨#[]⟩))
    omega
  tr := fun x y z h1 h2 => leT_trans (x := l.getD x.toNat ⟨#[]⟩) (y := l.getD y.toNat ⟨#[]⟩) (z := l.getD z.toNat ⟨#[]⟩) h1 h2
def iota (i : Nat) : List Int := (List.range i).map Int.ofNat
theorem iota_succ (i : Nat) : iota (i + 1) = iota i ++ [(i : Int)] := by simp [iota, List.range_succ]
theorem iota_length (i : Nat) : (iota i).length = i := by simp [iota]
theorem iota_mem {i : Nat} {x : Int} (h : x ∈ iota i) : 0 ≤ x ∧ x < i := by
  obtain ⟨j, hj, rfl⟩ := List.mem_map.1 h
  have := List.mem_range.1 hj
  exact ⟨Int.natCast_nonneg _, by show (j : Int) < i; omega⟩
theorem iota_texts (l : List ByteArray) : (iota l.length).map (fun x => l.getD x.toNat ⟨#[]⟩) = l := by
  apply List.ext_getElem
  · simp [iota]
  · intro k h1 h2
    simp [iota, List.getD_eq_getElem?_getD, h2]
/-- The numbers in order tell the texts in order. -/
theorem sorted_texts {l : List ByteArray} {ys : List Int} (hp : ys.Perm (iota l.length)) (hs : Stab.Srt (ordN l) 0 l.length ys) : ys.map (fun x => l.getD x.toNat ⟨#[]⟩) = isort l := by
  refine isort_only ?_ ?_
  · have := hp.map (fun x : Int => l.getD x.toNat ⟨#[]⟩)
    rwa [iota_texts] at this
  · rw [List.pairwise_map, List.pairwise_iff_getElem]
    intro i j hi hj hij
    have hl : ys.length = l.length := by rw [hp.length_eq, iota_length]
    have := hs i j (Nat.zero_le _) hij (by omega)
    rw [Stab.g_get hi, Stab.g_get hj] at this
    exact this
end Go.Proofs.YtcmajhdgaeploaaDoor.PathOrd
