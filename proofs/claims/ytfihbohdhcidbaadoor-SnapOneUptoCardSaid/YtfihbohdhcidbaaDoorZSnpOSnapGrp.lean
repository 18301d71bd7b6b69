/- Groups of snapshots that may be: alike just where host and paths are. -/
import Derived.Test.YtfihbohdhcidbaaDoorZSnpOSnapChk
import Derived.Test.YtfihbohdhcidbaaDoorQSnpOx4
namespace Go.Proofs.YtfihbohdhcidbaaDoor.QSnpO
open Go.RowKit Go.Proofs.YtfihbohdhcidbaaDoorW.PrintWords Go.Proofs.YtfihbohdhcidbaaDoorW.PrintLast
open Go Go.Proofs.YtfihbohdhcidbaaDoor.PathOrd
set_option linter.unusedVariables false
/-- What stands behind a group's host. -/
def grpP (P : List ByteArray) : List UInt8 := P.flatMap fun p => 0 :: p.data.toList
theorem grpP_len (P : List ByteArray) : (grpP P).length = (P.map fun p => p.size + 1).sum := by
  induction P with
  | nil => rfl
  | cons p P ih =>
    have : p.data.toList.length = p.size := by simp
    simp only [grpP, List.flatMap_cons, List.length_append, List.length_cons, List.map_cons, List.sum_cons] at ih ⊢
    omega
theorem join_grpP (x : List UInt8) : ∀ P : List ByteArray, Lib.join (x :: P.map (·.data.toList)) [0] = x ++ grpP P
  | [] => by simp [Lib.join, List.intercalate, grpP]
  | p :: P => by
    have ih := join_grpP p.data.toList P
    simp only [Lib.join, List.map_cons] at ih ⊢
    have : List.intercalate [0] (x :: p.data.toList :: P.map (·.data.toList)) = x ++ 0 :: List.intercalate [0] (p.data.toList :: P.map (·.data.toList)) := by simp [List.intercalate]
    rw [this, ih]
    simp [grpP]
theorem sgroup_told (t : Int) (h : ByteArray) (p g : List ByteArray) (r q : ByteArray) (hb : h.size + (p.map fun y => y.size + 1).sum ≤ 100000000000) (hl : p.length ≤ 100000000000) : snap_Group.f t h p g r q = some ⟨(h.data.toList ++ grpP p).toArray⟩ := by
  unfold snap_Group.f
  simp only [Option.bind_some]
  rw [if_pos (by simp; omega)]
  unfold strings_Join.f
  have e : (([h] : List ByteArray) ++ p).map (·.data.toList) = h.data.toList :: p.map (·.data.toList) := by simp
  have hd : h.data.toList.length = h.size := by simp
  rw [e, show (⟨#[0]⟩ : ByteArray).data.toList = [0] from rfl, join_grpP, if_pos ⟨by simp; omega, by rw [List.length_append, grpP_len]; omega⟩]
  rfl
def Tail (R : List UInt8) : Prop := R = [] ∨ ∃ r, R = 0 :: r
theorem cut_zero : ∀ (l m R S : List UInt8), (∀ c ∈ l, c ≠ 0) → (∀ c ∈ m, c ≠ 0) → Tail R → Tail S → l ++ R = m ++ S → l = m ∧ R = S
  | [], [], R, S, _, _, _, _, h => ⟨rfl, h⟩
  | [], b :: m, R, S, _, hm, hR, _, h => by
    exfalso
    rcases hR with rfl | ⟨r, rfl⟩
    · simp at h
    · have : (0 : UInt8) = b := by simp at h; exact h.1
      exact hm b (by simp) this.symm
  | a :: l, [], R, S, hl, _, _, hS, h => by
    exfalso
    rcases hS with rfl | ⟨r, rfl⟩
    · simp at h
    · have : a = (0 : UInt8) := by simp at h; exact h.1
      exact hl a (by simp) this
  | a :: l, b :: m, R, S, hl, hm, hR, hS, h => by
    simp only [List.cons_append, List.cons.injEq] at h
    obtain ⟨e1, e2⟩ := cut_zero l m R S (fun c hc => hl c (by simp [hc])) (fun c hc => hm c (by simp [hc])) hR hS h.2
    exact ⟨by rw [h.1, e1], e2⟩
theorem tail_grp (P : List ByteArray) : Tail (grpP P) := by
  cases P with
  | nil => exact .inl rfl
  | cons p P => exact .inr ⟨_, by unfold grpP; rw [List.flatMap_cons]; rfl⟩
theorem grp_inj : ∀ (P Q : List ByteArray), (∀ x ∈ P, ∀ c ∈ x.data.toList, c ≠ 0) → (∀ x ∈ Q, ∀ c ∈ x.data.toList, c ≠ 0) → grpP P = grpP Q → P = Q
  | [], [], _, _, _ => rfl
  | [], b :: Q, _, _, h => by simp [grpP] at h
  | a :: P, [], _, _, h => by simp [grpP] at h
  | a :: P, b :: Q, hP, hQ, h => by
    have h2 : a.data.toList ++ grpP P = b.data.toList ++ grpP Q := by
      simp only [grpP, List.flatMap_cons, List.cons_append, List.cons.injEq] at h
      exact h.2
    obtain ⟨e1, e2⟩ := cut_zero _ _ _ _ (hP a (by simp)) (hQ b (by simp)) (tail_grp P) (tail_grp Q) h2
    rw [eq_of_list e1, grp_inj P Q (fun x hx => hP x (by simp [hx])) (fun x hx => hQ x (by simp [hx])) e2]
theorem jn_mem : ∀ (L : List (List UInt8)) (c : UInt8), c ∈ jn L → c = 47 ∨ ∃ l ∈ L, c ∈ l
  | [], c, h => by simp [jn] at h
  | [x], c, h => .inr ⟨x, by simp, by simpa [jn] using h⟩
  | x :: y :: r, c, h => by
    rw [jn_cons x _ (by simp)] at h
    rcases List.mem_append.1 h with h | h
    · exact .inr ⟨x, by simp, h⟩
    · rcases List.mem_cons.1 h with h | h
      · exact .inl h
      · rcases jn_mem (y :: r) c h with h | ⟨l, hl, hc⟩
        · exact .inl h
        · exact .inr ⟨l, by simp only [List.mem_cons] at hl ⊢; exact .inr hl, hc⟩
theorem path_free {x : ByteArray} (h : pathB x = true) : ∀ c ∈ x.data.toList, c ≠ 0 := by
  intro c hc
  rw [← jn_parts x] at hc
  rcases jn_mem _ c hc with rfl | ⟨l, hl, hcl⟩
  · decide
  · obtain ⟨y, hy, rfl⟩ := List.mem_map.1 hl
    exact no_byte (of_decide_eq_true (isB_all h y hy)).2.2.2.2.1 c hcl
theorem word_free {s : ByteArray} {n : Int} (h : wordB s n = true) : ∀ c ∈ s.data.toList, c ≠ 0 := by
  intro c hc e
  simp only [wordB, Bool.and_eq_true] at h
  have := List.all_eq_true.1 h.1 c hc
  rw [Bool.and_eq_true, decide_eq_true_eq, e] at this
  exact absurd this.1 (by decide)
theorem chk_parts {t : Int} {h : ByteArray} {p g : List ByteArray} {r q : ByteArray} (hc : chkB t h p g r q = true) : (0 ≤ t ∧ t ≤ 1099511627776) ∧ wordB h 64 = true ∧ pathsB p = true ∧ tagsB g = true ∧ r.size = 32 ∧ (q.data.toList = [] ∨ q.size = 32) := by
  simp only [chkB, Bool.and_eq_true, Bool.or_eq_true, decide_eq_true_eq] at hc
  exact ⟨hc.1, hc.2.1, hc.2.2.1.1, hc.2.2.1.2, hc.2.2.2.1, hc.2.2.2.2⟩
theorem groups_alike {h h' : ByteArray} {p p' : List ByteArray} (w1 : wordB h 64 = true) (w2 : wordB h' 64 = true) (p1 : pathsB p = true) (p2 : pathsB p' = true) :
    h.data.toList ++ grpP p = h'.data.toList ++ grpP p' ↔ h = h' ∧ p = p' := by
  constructor
  · intro e
    obtain ⟨e1, e2⟩ := cut_zero _ _ _ _ (word_free w1) (word_free w2) (tail_grp p) (tail_grp p') e
    exact ⟨eq_of_list e1, grp_inj p p' (fun x hx => path_free ((risB_all p1).2 x hx)) (fun x hx => path_free ((risB_all p2).2 x hx)) e2⟩
  · rintro ⟨rfl, rfl⟩
    rfl
theorem sameTexts_l (X Y : List ByteArray) (hl : X.length = Y.length) (hb : X.length ≤ 4294967296) : ∀ (k i : Nat), i ≤ X.length → X.length - i < k → garretbook_SameTexts.l0 k X Y (i : Int) = some (decide (X.drop i = Y.drop i))
  | 0, _, _, h => by omega
  | k + 1, i, hi, h => by
    unfold garretbook_SameTexts.l0
    by_cases hx : i < X.length
    · have hy : i < Y.length := by omega
      rw [if_pos (by omega), if_pos (by omega), if_pos (by omega)]
      have ex : rdOf ByteArray.empty X (i : Int) = X[i] := by simp [rdOf, List.getD_eq_getElem?_getD, hx]
      have ey : rdOf ByteArray.empty Y (i : Int) = Y[i] := by simp [rdOf, List.getD_eq_getElem?_getD, hy]
      rw [ex, ey, List.drop_eq_getElem_cons hx, List.drop_eq_getElem_cons hy, ByteArray.toList_eq, ByteArray.toList_eq]
      by_cases e : X[i] = Y[i]
      · rw [if_pos (by rw [e]), show wrap64 ((i : Int) + 1) = ((i + 1 : Nat) : Int) by unfold wrap64; omega, sameTexts_l X Y hl hb k (i + 1) (by omega) (by omega), e]
        congr 1
        apply decide_eq_decide.2
        simp only [List.cons.injEq, true_and]
      · rw [if_neg (fun h => e (eq_of_list h)), decide_eq_false (fun h => e (List.cons.inj h).1)]
    · rw [if_neg (by omega), List.drop_eq_nil_of_le (by omega), List.drop_eq_nil_of_le (by omega)]
      rfl
theorem sameTexts_told (k : Nat) (X Y : List ByteArray) (hb : X.length ≤ 4294967296) (hk : X.length < k) : garretbook_SameTexts.f k X Y = some (decide (X = Y)) := by
  unfold garretbook_SameTexts.f
  by_cases e : (X.length : Int) = (Y.length : Int)
  · rw [if_pos e]
    have h := sameTexts_l X Y (by omega) hb k 0 (Nat.zero_le _) (by omega)
    rw [show ((0 : Nat) : Int) = 0 from rfl] at h
    rw [h]
    simp
  · rw [if_neg e, decide_eq_false (fun h => e (by rw [h]))]
theorem slen_sum (l : List ByteArray) : l.length ≤ (l.map fun y => y.size + 1).sum := by
  induction l with
  | nil => simp
  | cons a l ih => simp only [List.length_cons, List.map_cons, List.sum_cons]; omega
theorem smem_sum {l : List ByteArray} {x : ByteArray} (h : x ∈ l) : x.size + 1 ≤ (l.map fun y => y.size + 1).sum := by
  induction l with
  | nil => cases h
  | cons a l ih =>
    simp only [List.map_cons, List.sum_cons]
    rcases List.mem_cons.1 h with rfl | h
    · omega
    · have := ih h; omega
end Go.Proofs.YtfihbohdhcidbaaDoor.QSnpO
