/- How two snapshots stand, and their groups, by the document, as it is printed: its plain meaning. -/
import Derived.Test.YtfihbohdhcidbaaZSnpASnapOrd
import Derived.Test.YtfihbohdhcidbaaQSnpAx2
namespace Go.Proofs.Ytfihbohdhcidbaa.QSnpA
open Go.RowKit Go.Proofs.YtfihbohdhcidbaaW.PrintWords Go.Proofs.YtfihbohdhcidbaaW.PrintLast
open Go Go.Proofs.Ytfihbohdhcidbaa.PathOrd
set_option linter.unusedVariables false
theorem cmpT_lt {x y : ByteArray} (h : Op.bytesLess x.toList y.toList = true) : cmpT x y = -1 := by
  rw [ByteArray.toList_eq, ByteArray.toList_eq] at h
  unfold cmpT
  rw [if_pos h]
theorem cmpT_gt {x y : ByteArray} (h : Op.bytesLess y.toList x.toList = true) : cmpT x y = 1 := by
  rw [ByteArray.toList_eq, ByteArray.toList_eq] at h
  unfold cmpT
  rw [if_neg (by rw [bl_asymm _ _ h]; simp), if_pos h]
theorem cmpT_eq {x y : ByteArray} (h1 : ¬ Op.bytesLess x.toList y.toList = true) (h2 : ¬ Op.bytesLess y.toList x.toList = true) : cmpT x y = 0 := by
  rw [ByteArray.toList_eq, ByteArray.toList_eq] at h1 h2
  unfold cmpT
  rw [if_neg h1, if_neg h2]
theorem rlists_l (X Y : List ByteArray) (hX : X.length ≤ 4294967296) : ∀ (k : Nat) (i : Nat), i ≤ X.length → i ≤ Y.length → 2 * (X.length - i) + 1 < k → garretref20_lists.l0 k X Y (i : Int) = some (cmpL (X.drop i) (Y.drop i))
  | 0, _, _, _, h => by omega
  | 1, _, _, _, h => by omega
  | k + 2, i, hi, hj, h => by
    unfold garretref20_lists.l0
    by_cases hx : i < X.length
    · rw [if_pos (by omega)]
      unfold garretref20_lists.j1
      rw [List.drop_eq_getElem_cons hx]
      by_cases hy : i < Y.length
      · rw [if_pos (decide_eq_true (by omega)), if_pos (by omega), if_pos (by omega), if_pos (by omega)]
        rw [List.drop_eq_getElem_cons hy]
        have ex : rdOf ByteArray.empty X (i : Int) = X[i] := by simp [rdOf, List.getD_eq_getElem?_getD, hx]
        have ey : rdOf ByteArray.empty Y (i : Int) = Y[i] := by simp [rdOf, List.getD_eq_getElem?_getD, hy]
        rw [ex, ey]
        simp only [cmpL]
        by_cases e1 : Op.bytesLess X[i].toList Y[i].toList = true
        · rw [if_pos e1, cmpT_lt e1]; rfl
        · rw [if_neg e1]
          by_cases e2 : Op.bytesLess Y[i].toList X[i].toList = true
          · rw [if_pos e2, cmpT_gt e2]; rfl
          · rw [if_neg e2, cmpT_eq e1 e2, if_pos rfl]
            rw [show wrap64 ((i : Int) + 1) = ((i + 1 : Nat) : Int) by unfold wrap64; omega]
            exact rlists_l X Y hX k (i + 1) (by omega) (by omega) (by omega)
      · rw [if_neg (by rw [decide_eq_false (by omega)]; simp), List.drop_eq_nil_of_le (show Y.length ≤ i by omega), if_neg (by omega), if_pos (by omega)]
        rfl
    · rw [if_neg (by omega)]
      unfold garretref20_lists.j1
      rw [if_neg (by simp), List.drop_eq_nil_of_le (show X.length ≤ i by omega)]
      by_cases hy : i < Y.length
      · rw [if_pos (by omega), List.drop_eq_getElem_cons hy]
        rfl
      · rw [if_neg (by omega), if_neg (by omega), List.drop_eq_nil_of_le (by omega)]
        rfl
theorem rlists_told (k : Nat) (X Y : List ByteArray) (hX : X.length ≤ 4294967296) (hk : 2 * X.length + 1 < k) : garretref20_lists.f k X Y = some (cmpL X Y) := by
  have h := rlists_l X Y hX k 0 (Nat.zero_le _) (Nat.zero_le _) (by omega)
  simpa [garretref20_lists.f] using h
theorem refOrder_told (k : Nat) (t : Int) (h : ByteArray) (p g : List ByteArray) (r q : ByteArray) (t' : Int) (h' : ByteArray) (p' g' : List ByteArray) (r' q' : ByteArray) (hp : p.length ≤ 4294967296) (hg : g.length ≤ 4294967296) (kp : 2 * p.length + 1 < k) (kg : 2 * g.length + 1 < k) (k6 : 6 < k) :
    garretref20_order.f k t h p g r q t' h' p' g' r' q' = some (ordS t h p g r q t' h' p' g' r' q') := by
  unfold garretref20_order.f ordS
  simp only [firstNZ]
  by_cases e0 : t = t'
  · subst e0
    rw [if_pos rfl, rlists_told k [h] [h'] (by simp) (by simp; omega)]
    rw [show cmpI t t = 0 by simp [cmpI]]
    simp only [Option.bind_some, cmpL, if_true]
    by_cases e1 : cmpT h h' = 0
    · simp only [e1, if_true]
      rw [rlists_told k p p' hp kp]
      simp only [Option.bind_some]
      by_cases e2 : cmpL p p' = 0
      · simp only [e2, if_true]
        rw [rlists_told k g g' hg kg]
        simp only [Option.bind_some]
        by_cases e3 : cmpL g g' = 0
        · simp only [e3, if_true]
          rw [rlists_told k [r, q] [r', q'] (by simp) (by simp; omega)]
          simp only [Option.bind_some, cmpL]
        · simp only [e3, if_false]
      · simp only [e2, if_false]
    · simp only [e1, if_false]
  · rw [if_neg e0]
    by_cases e1 : t < t'
    · rw [if_pos e1, show cmpI t t' = -1 by unfold cmpI; rw [if_pos e1], if_neg (by decide)]
    · rw [if_neg e1, show cmpI t t' = 1 by unfold cmpI; rw [if_neg e1, if_pos (by omega)], if_neg (by decide)]
/-- What stands behind a group's host. -/
def grp (P : List ByteArray) : List UInt8 := P.flatMap fun p => 0 :: p.data.toList
theorem grp_len (P : List ByteArray) : (grp P).length = (P.map fun p => p.size + 1).sum := by
  induction P with
  | nil => rfl
  | cons p P ih =>
    have : p.data.toList.length = p.size := by simp
    simp only [grp, List.flatMap_cons, List.length_append, List.length_cons, List.map_cons, List.sum_cons] at ih ⊢
    omega
theorem join_grp (x : List UInt8) : ∀ P : List ByteArray, Lib.join (x :: P.map (·.data.toList)) [0] = x ++ grp P
  | [] => by simp [Lib.join, List.intercalate, grp]
  | p :: P => by
    have ih := join_grp p.data.toList P
    simp only [Lib.join, List.map_cons] at ih ⊢
    have : List.intercalate [0] (x :: p.data.toList :: P.map (·.data.toList)) = x ++ 0 :: List.intercalate [0] (p.data.toList :: P.map (·.data.toList)) := by simp [List.intercalate]
    rw [this, ih]
    simp [grp]
theorem group_told (t : Int) (h : ByteArray) (p g : List ByteArray) (r q : ByteArray) (hb : h.size + (p.map fun y => y.size + 1).sum ≤ 100000000000) (hl : p.length ≤ 100000000000) : snap_Group.f t h p g r q = some ⟨(h.data.toList ++ grp p).toArray⟩ := by
  unfold snap_Group.f
  simp only [Option.bind_some]
  rw [if_pos (by simp; omega)]
  unfold strings_Join.f
  have e : (([h] : List ByteArray) ++ p).map (·.data.toList) = h.data.toList :: p.map (·.data.toList) := by simp
  have hd : h.data.toList.length = h.size := by simp
  rw [e, show (⟨#[0]⟩ : ByteArray).data.toList = [0] from rfl, join_grp, if_pos ⟨by simp; omega, by rw [List.length_append, grp_len]; omega⟩]
  rfl
theorem refGroup_l (t : Int) (h : ByteArray) (p g : List ByteArray) (r q : ByteArray) (hl : p.length ≤ 100000000000) : ∀ (k i : Nat) (s : ByteArray), i ≤ p.length → p.length - i < k → s.size + (grp (p.drop i)).length ≤ 1000000000000 →
    garretref20_Group.l0 k s (i : Int) t h p g r q = some ⟨(s.data.toList ++ grp (p.drop i)).toArray⟩
  | 0, _, _, _, h, _ => by omega
  | k + 1, i, s, hi, hk, hb => by
    unfold garretref20_Group.l0
    by_cases hx : i < p.length
    · have ex : rdOf ByteArray.empty p (i : Int) = p[i] := by simp [rdOf, List.getD_eq_getElem?_getD, hx]
      rw [List.drop_eq_getElem_cons hx] at hb ⊢
      have hg : grp (p[i] :: p.drop (i + 1)) = 0 :: p[i].data.toList ++ grp (p.drop (i + 1)) := by unfold grp; rw [List.flatMap_cons]
      have hd : p[i].data.toList.length = p[i].size := by simp
      rw [hg] at hb ⊢
      simp only [List.cons_append, List.length_cons, List.length_append] at hb
      have h1 : ((⟨#[0]⟩ : ByteArray) ++ p[i]).size = 1 + p[i].size := by rw [ByteArray.size_append]; rfl
      rw [if_pos (by omega), if_pos (by omega), ex, if_pos (by omega), h1, if_pos (by omega), show wrap64 ((i : Int) + 1) = ((i + 1 : Nat) : Int) by unfold wrap64; omega]
      have h2 : (s ++ ((⟨#[0]⟩ : ByteArray) ++ p[i])).size = s.size + (1 + p[i].size) := by rw [ByteArray.size_append, h1]
      rw [refGroup_l t h p g r q hl k (i + 1) _ (by omega) (by omega) (by omega)]
      congr 3
      simp
    · rw [if_neg (by omega), List.drop_eq_nil_of_le (by omega)]
      simp [grp]
theorem refGroup_told (k : Nat) (t : Int) (h : ByteArray) (p g : List ByteArray) (r q : ByteArray) (hb : h.size + (p.map fun y => y.size + 1).sum ≤ 100000000000) (hl : p.length ≤ 100000000000) (hk : p.length < k) : garretref20_Group.f k t h p g r q = some ⟨(h.data.toList ++ grp p).toArray⟩ := by
  have := refGroup_l t h p g r q hl k 0 h (Nat.zero_le _) (by omega) (by rw [List.drop_zero, grp_len]; omega)
  simpa [garretref20_Group.f] using this
theorem len_sum (l : List ByteArray) : l.length ≤ (l.map fun y => y.size + 1).sum := by
  induction l with
  | nil => simp
  | cons a l ih => simp only [List.length_cons, List.map_cons, List.sum_cons]; omega
end Go.Proofs.Ytfihbohdhcidbaa.QSnpA
