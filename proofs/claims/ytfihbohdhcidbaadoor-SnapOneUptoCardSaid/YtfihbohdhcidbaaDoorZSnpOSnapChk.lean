/- Which snapshots may be, as it is printed: its plain meaning. -/
import Derived.Test.YtfihbohdhcidbaaDoorZSnpOPathTI
import Derived.Test.YtfihbohdhcidbaaDoorZSnpOPathTB
import Derived.Test.YtfihbohdhcidbaaDoorQSnpOx4
namespace Go.Proofs.YtfihbohdhcidbaaDoor.QSnpO
open Go.RowKit Go.Proofs.YtfihbohdhcidbaaDoorW.PrintWords Go.Proofs.YtfihbohdhcidbaaDoorW.PrintLast
open Go Go.Proofs.YtfihbohdhcidbaaDoor.PathOrd
set_option linter.unusedVariables false
def wordB (s : ByteArray) (n : Int) : Bool := snap_word.vis s.data.toList && (decide (s.data.toList ≠ []) && decide ((s.size : Int) ≤ n))
theorem word_told (s : ByteArray) (n : Int) (h : s.size ≤ 140737488351232) : snap_word.f s n = some (wordB s n) := by
  unfold snap_word.f wordB
  rw [if_pos h]
/-- The members from the last d on. -/
def goB (R : ByteArray → Bool) (L : ByteArray → ByteArray → Bool) (l : List ByteArray) : Nat → Bool
  | 0 => true
  | d + 1 => R (l.getD (l.length - (d + 1)) ByteArray.empty) && ((decide (l.length - (d + 1) = 0) || L (l.getD (l.length - (d + 1) - 1) ByteArray.empty) (l.getD (l.length - (d + 1)) ByteArray.empty)) && goB R L l d)
def risB (R : ByteArray → Bool) (L : ByteArray → ByteArray → Bool) (l : List ByteArray) : Bool := decide (l.length ≤ 64) && goB R L l l.length
theorem goB_told {R : ByteArray → Option Bool} {L : ByteArray → ByteArray → Option Bool} {Rb : ByteArray → Bool} {Lb : ByteArray → ByteArray → Bool} (l : List ByteArray) (hR : ∀ x ∈ l, R x = some (Rb x)) (hL : ∀ x ∈ l, ∀ y ∈ l, L x y = some (Lb x y)) :
    ∀ d, d ≤ l.length → snap_rises_string.go R L l d = some (goB Rb Lb l d)
  | 0, _ => rfl
  | d + 1, hd => by
    have ih := goB_told l hR hL d (by omega)
    have hm : ∀ j, j < l.length → l.getD j ByteArray.empty ∈ l := fun j hj => by rw [List.getD_eq_getElem?_getD, List.getElem?_eq_getElem hj]; exact List.getElem_mem hj
    unfold snap_rises_string.go goB
    rw [hR _ (hm _ (by omega)), Option.bind_some]
    cases h1 : Rb (l.getD (l.length - (d + 1)) ByteArray.empty) with
    | false => rw [if_neg (by decide)]; rfl
    | true =>
      rw [if_pos rfl]
      by_cases h0 : l.length - (d + 1) = 0
      · rw [if_pos h0, ih, decide_eq_true h0]; simp
      · rw [if_neg h0, hL _ (hm _ (by omega)) _ (hm _ (by omega)), Option.bind_some, decide_eq_false h0]
        cases h2 : Lb (l.getD (l.length - (d + 1) - 1) ByteArray.empty) (l.getD (l.length - (d + 1)) ByteArray.empty) with
        | false => rw [if_neg (by decide)]; rfl
        | true => rw [if_pos rfl, ih]; simp
theorem risB_told {R : ByteArray → Option Bool} {L : ByteArray → ByteArray → Option Bool} {Rb : ByteArray → Bool} {Lb : ByteArray → ByteArray → Bool} (l : List ByteArray) (hR : ∀ x ∈ l, R x = some (Rb x)) (hL : ∀ x ∈ l, ∀ y ∈ l, L x y = some (Lb x y)) :
    snap_rises_string.ris R L l = some (risB Rb Lb l) := by
  unfold snap_rises_string.ris risB
  by_cases h : 64 < l.length
  · rw [if_pos h, decide_eq_false (by omega)]; rfl
  · rw [if_neg h, decide_eq_true (by omega), goB_told l hR hL _ (Nat.le_refl _), Bool.true_and]
theorem goB_all {R : ByteArray → Bool} {L : ByteArray → ByteArray → Bool} {l : List ByteArray} : ∀ d, d ≤ l.length → goB R L l d = true → ∀ j, l.length - d ≤ j → j < l.length → R (l.getD j ByteArray.empty) = true
  | 0, _, _, j, h1, h2 => by omega
  | d + 1, hd, h, j, h1, h2 => by
    simp only [goB, Bool.and_eq_true] at h
    by_cases e : j = l.length - (d + 1)
    · rw [e]; exact h.1
    · exact goB_all d (by omega) h.2.2 j (by omega) h2
theorem risB_all {R : ByteArray → Bool} {L : ByteArray → ByteArray → Bool} {l : List ByteArray} (h : risB R L l = true) : l.length ≤ 64 ∧ ∀ x ∈ l, R x = true := by
  simp only [risB, Bool.and_eq_true, decide_eq_true_eq] at h
  refine ⟨h.1, fun x hx => ?_⟩
  obtain ⟨j, hj, rfl⟩ := List.getElem_of_mem hx
  have := goB_all l.length (Nat.le_refl _) h.2 j (by omega) hj
  rwa [List.getD_eq_getElem?_getD, List.getElem?_eq_getElem hj] at this
def pathB (x : ByteArray) : Bool := isB (parts x)
theorem isPath_told (k : Nat) (x : ByteArray) (h : x.size ≤ 2000000) (hk : x.size + 2 < k) : snap_isPath.f k x = some (pathB x) := by
  unfold snap_isPath.f
  rw [splitf_told k x h hk, Option.bind_some]
  unfold pathB
  cases isB (parts x) <;> rfl
theorem isTag_told (x : ByteArray) (h : x.size ≤ 140737488351232) : snap_isTag.f x = some (wordB x 32) := by
  unfold snap_isTag.f
  rw [word_told x 32 h]
  rfl
theorem cless_told (x y : ByteArray) : cmp_Less_string.f x y = some (decide (cmpT x y < 0)) := by
  have h : ∀ z : ByteArray, cmp_isNaN_string.f z = some false := fun z => by unfold cmp_isNaN_string.f; simp
  unfold cmp_Less_string.f
  rw [h x, Option.bind_some, if_neg (by decide)]
  congr 1
  rw [ByteArray.toList_eq, ByteArray.toList_eq]
  cases e : Op.bytesLess x.data.toList y.data.toList with
  | true => exact (decide_eq_true (cmpT_neg.2 e)).symm
  | false => exact (decide_eq_false (fun h => by rw [cmpT_neg.1 h] at e; cases e)).symm
def pathsB (p : List ByteArray) : Bool := risB pathB (fun x y => decide (cmpL (parts x) (parts y) < 0)) p
def tagsB (g : List ByteArray) : Bool := risB (fun x => wordB x 32) (fun x y => decide (cmpT x y < 0)) g
theorem paths_told (k : Nat) (p : List ByteArray) (h : ∀ x ∈ p, x.size ≤ 1500000) (hk : 1500010 < k) : snap_rises_string.f k p 22 23 = some (pathsB p) := by
  unfold snap_rises_string.f
  rw [if_pos ⟨rfl, rfl⟩]
  exact risB_told p (fun x hx => isPath_told k x (by have := h x hx; omega) (by have := h x hx; omega)) (fun x hx y hy => less_told k x y (by have := h x hx; omega) (by have := h y hy; omega) (by have := h x hx; omega))
theorem tags_told (k : Nat) (g : List ByteArray) (h : ∀ x ∈ g, x.size ≤ 140737488351232) : snap_rises_string.f k g 24 25 = some (tagsB g) := by
  unfold snap_rises_string.f
  rw [if_neg (by decide), if_pos ⟨rfl, rfl⟩]
  exact risB_told g (fun x hx => isTag_told x (h x hx)) (fun x hx y hy => cless_told x y)
def chkB (t : Int) (h : ByteArray) (p g : List ByteArray) (r q : ByteArray) : Bool :=
  decide (0 ≤ t ∧ t ≤ 1099511627776) && (wordB h 64 && ((pathsB p && tagsB g) && (decide (r.size = 32) && (decide (q.data.toList = []) || decide (q.size = 32)))))
theorem isId_told (r : ByteArray) : sha_IsId.f r = some (decide (r.size = 32)) := by
  unfold sha_IsId.f
  by_cases e : r.size = 32
  · rw [decide_eq_true e, e]; rfl
  · rw [decide_eq_false e]
    congr 1
    rw [beq_eq_false_iff_ne]
    omega
theorem check_told (k : Nat) (t : Int) (h : ByteArray) (p g : List ByteArray) (r q : ByteArray) (hh : h.size ≤ 140737488351232) (hp : ∀ x ∈ p, x.size ≤ 1500000) (hg : ∀ x ∈ g, x.size ≤ 140737488351232) (hk : 1500020 < k) :
    snap_Check.f k t h p g r q = some (if chkB t h p g r q = true then 0 else 200) := by
  obtain ⟨k, rfl⟩ : ∃ m, k = m + 2 := ⟨k - 2, by omega⟩
  have j0 : ∀ b : Bool, snap_Check.j0 (k + 2) b t h p g r q = some (if (b && (wordB h 64 && ((pathsB p && tagsB g) && (decide (r.size = 32) && (decide (q.data.toList = []) || decide (q.size = 32)))))) = true then 0 else 200) := fun b => by
    have j1 : ∀ c : Bool, snap_Check.j1 (k + 1) b c t h p g r q = some (if (b && (wordB h 64 && (c && (decide (r.size = 32) && (decide (q.data.toList = []) || decide (q.size = 32)))))) = true then 0 else 200) := fun c => by
      rw [snap_Check.j1, isId_told r, isId_told q, word_told h 64 hh]
      simp only [Option.bind_some]
      by_cases e1 : r.size = 32
      · rw [decide_eq_true e1, if_pos rfl]
        by_cases e2 : q.data.toList = []
        · rw [if_pos (show q.toList = ([] : List UInt8) by rw [ByteArray.toList_eq]; exact e2), decide_eq_true e2]
          cases b <;> cases wordB h 64 <;> cases c <;> rfl
        · rw [if_neg (show ¬ q.toList = ([] : List UInt8) by rw [ByteArray.toList_eq]; exact e2), decide_eq_false e2]
          cases b <;> cases wordB h 64 <;> cases c <;> cases decide (q.size = 32) <;> rfl
      · rw [decide_eq_false e1, if_neg (by decide)]
        cases b <;> cases wordB h 64 <;> cases c <;> rfl
    rw [snap_Check.j0, paths_told (k + 1) p hp (by omega), Option.bind_some]
    cases e : pathsB p with
    | false => rw [if_neg (by decide), j1, Bool.false_and, Bool.false_and, Bool.false_and]
    | true => rw [if_pos rfl, tags_told (k + 1) g hg, Option.bind_some, j1, Bool.true_and]
  unfold snap_Check.f chkB
  have d : decide (0 ≤ t ∧ t ≤ 1099511627776) = (decide (0 ≤ t) && decide (t ≤ 1099511627776)) := by
    by_cases e : 0 ≤ t <;> by_cases e2 : t ≤ 1099511627776 <;> simp [e, e2]
  rw [d]
  by_cases e : 0 ≤ t
  · rw [if_pos e, j0, decide_eq_true e, Bool.true_and]
  · rw [if_neg e, j0, decide_eq_false e, Bool.false_and, Bool.false_and, Bool.false_and]
end Go.Proofs.YtfihbohdhcidbaaDoor.QSnpO
