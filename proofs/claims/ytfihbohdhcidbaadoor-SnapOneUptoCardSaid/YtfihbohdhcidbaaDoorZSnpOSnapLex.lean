/- The order of snapshots is one: plain. -/
import Derived.Test.YtfihbohdhcidbaaDoorZSnpOSnapOrd
namespace Go.Proofs.YtfihbohdhcidbaaDoor.QSnpO
open Go.RowKit Go.Proofs.YtfihbohdhcidbaaDoorW.PrintWords Go.Proofs.YtfihbohdhcidbaaDoorW.PrintLast
open Go Go.Proofs.YtfihbohdhcidbaaDoor.PathOrd
set_option linter.unusedVariables false
/-- A comparison: turned about it turns its sign, nothing but like ones are 0, and it goes on. -/
structure Cmp {α : Type} (c : α → α → Int) : Prop where
  swap : ∀ x y, c y x = - c x y
  zero : ∀ x y, c x y = 0 → x = y
  trans : ∀ x y z, c x y < 0 → c y z < 0 → c x z < 0
theorem Cmp.self {α : Type} {c : α → α → Int} (h : Cmp c) (x : α) : c x x = 0 := by have := h.swap x x; omega
def lex {α β : Type} (c : α → α → Int) (d : β → β → Int) (x y : α × β) : Int := if c x.1 y.1 = 0 then d x.2 y.2 else c x.1 y.1
theorem Cmp.lex {α β : Type} {c : α → α → Int} {d : β → β → Int} (hc : Cmp c) (hd : Cmp d) : Cmp (lex c d) where
  swap := fun x y => by
    unfold QSnpO.lex
    rw [hc.swap x.1 y.1, hd.swap x.2 y.2]
    by_cases e : c x.1 y.1 = 0
    · rw [if_pos e, if_pos (by omega)]
    · rw [if_neg e, if_neg (by omega)]
  zero := fun x y h => by
    unfold QSnpO.lex at h
    by_cases e : c x.1 y.1 = 0
    · rw [if_pos e] at h
      exact Prod.ext (hc.zero _ _ e) (hd.zero _ _ h)
    · rw [if_neg e] at h
      exact absurd h e
  trans := fun x y z h1 h2 => by
    unfold QSnpO.lex at h1 h2 ⊢
    by_cases e1 : c x.1 y.1 = 0
    · rw [if_pos e1] at h1
      rw [hc.zero _ _ e1]
      by_cases e2 : c y.1 z.1 = 0
      · rw [if_pos e2] at h2 ⊢
        exact hd.trans _ _ _ h1 h2
      · rw [if_neg e2] at h2 ⊢
        exact h2
    · rw [if_neg e1] at h1
      by_cases e2 : c y.1 z.1 = 0
      · rw [if_pos e2] at h2
        rw [← hc.zero _ _ e2, if_neg e1]
        exact h1
      · rw [if_neg e2] at h2
        have h3 := hc.trans _ _ _ h1 h2
        rw [if_neg (by omega)]
        exact h3
theorem cmp_I : Cmp cmpI where
  swap := fun x y => by unfold cmpI; split <;> split <;> first | omega | (split <;> omega)
  zero := fun x y h => by
    unfold cmpI at h
    split at h
    · omega
    · split at h <;> omega
  trans := fun x y z h1 h2 => by
    unfold cmpI at h1 h2 ⊢
    split at h1
    · split at h2
      · rw [if_pos (by omega)]; omega
      · split at h2 <;> omega
    · split at h1 <;> omega
theorem cmp_T : Cmp cmpT where
  swap := cmpT_swap
  zero := fun _ _ h => cmpT_zero h
  trans := fun x y z h1 h2 => cmpT_neg.2 (bl_trans _ _ _ (cmpT_neg.1 h1) (cmpT_neg.1 h2))
theorem cmp_L : Cmp cmpL where
  swap := cmpL_swap
  zero := fun _ _ h => cmpL_zero h
  trans := cmpL_trans
/-- A snapshot, part by part. -/
abbrev Sn := Int × ByteArray × List ByteArray × List ByteArray × ByteArray × ByteArray
def ordP : Sn → Sn → Int := lex cmpI (lex cmpT (lex cmpL (lex cmpL (lex cmpT cmpT))))
theorem cmp_P : Cmp ordP := cmp_I.lex (cmp_T.lex (cmp_L.lex (cmp_L.lex (cmp_T.lex cmp_T))))
theorem ordS_P (t : Int) (h : ByteArray) (p g : List ByteArray) (r q : ByteArray) (t' : Int) (h' : ByteArray) (p' g' : List ByteArray) (r' q' : ByteArray) :
    ordS t h p g r q t' h' p' g' r' q' = ordP (t, h, p, g, r, q) (t', h', p', g', r', q') := by
  unfold ordS ordP lex
  simp only [firstNZ]
  by_cases e : cmpT q q' = 0
  · rw [if_pos e, e]
  · rw [if_neg e]
end Go.Proofs.YtfihbohdhcidbaaDoor.QSnpO
