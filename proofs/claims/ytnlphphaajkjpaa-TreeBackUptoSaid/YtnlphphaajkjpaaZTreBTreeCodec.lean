/- Trees, the plain part: a list of nodes as bytes, and that bytes are one list's alone. (Session 7's draft: not built yet.) -/
import Derived.Test.YtnlphphaajkjpaaZTreBNodeRead
import Derived.Test.YtnlphphaajkjpaaQTreBx6
namespace Go.Proofs.Ytnlphphaajkjpaa.QTreB
open Go.RowKit Go.Proofs.YtnlphphaajkjpaaW.PrintWords Go.Proofs.YtnlphphaajkjpaaW.PrintLast Go.Proofs.YtnlphphaajkjpaaW.PrintMore
set_option linter.unusedVariables false
abbrev Nd := S24
def tEnc (l : List Nd) : List Int := encS l.length ++ l.flatMap nEnc
theorem node_uniq {x y : Nd} (hx : Good x) (hy : Good y) (s : ByteArray) (a b : List Int) (h1 : bytesOf s = nEnc x ++ a) (h2 : bytesOf s = nEnc y ++ b) : x = y ∧ a = b ∧ ∃ s', bytesOf s' = a := by
  obtain ⟨s1, r1, e1⟩ := read_fwd (k := 20000) (Nat.le_refl _) hx s a h1
  obtain ⟨s2, r2, e2⟩ := read_fwd (k := 20000) (Nat.le_refl _) hy s b h2
  rw [r1] at r2
  simp only [Option.some.injEq, Prod.mk.injEq] at r2
  obtain ⟨g0, g1, g2, g3, g4, g5, g6, g7, g8, gs, _⟩ := r2
  subst gs
  refine ⟨?_, e1.symm.trans e2, s1, e1⟩
  cases x
  cases y
  simp_all
theorem nodes_uniq : ∀ (l l' : List Nd) (s : ByteArray) (a b : List Int), l.length = l'.length → (∀ x ∈ l, Good x) → (∀ x ∈ l', Good x) → bytesOf s = l.flatMap nEnc ++ a → bytesOf s = l'.flatMap nEnc ++ b → l = l' ∧ a = b
  | [], [], s, a, b, _, _, _, h1, h2 => ⟨rfl, by simpa using h1.symm.trans h2⟩
  | [], _ :: _, _, _, _, h, _, _, _, _ => by simp at h
  | _ :: _, [], _, _, _, h, _, _, _, _ => by simp at h
  | x :: l, y :: l', s, a, b, hl, g1, g2, h1, h2 => by
    rw [List.flatMap_cons, List.append_assoc] at h1 h2
    obtain ⟨rfl, hr, s', hs⟩ := node_uniq (g1 x (List.mem_cons_self ..)) (g2 y (List.mem_cons_self ..)) s _ _ h1 h2
    obtain ⟨rfl, hab⟩ := nodes_uniq l l' s' a b (by simpa using hl) (fun z hz => g1 z (List.mem_cons_of_mem _ hz)) (fun z hz => g2 z (List.mem_cons_of_mem _ hz)) hs (hs.trans hr)
    exact ⟨rfl, hab⟩
theorem tree_uniq {l l' : List Nd} (hl : l.length ≤ 4096) (hl' : l'.length ≤ 4096) (g1 : ∀ x ∈ l, Good x) (g2 : ∀ x ∈ l', Good x) (s : ByteArray) (a b : List Int) (h1 : bytesOf s = tEnc l ++ a) (h2 : bytesOf s = tEnc l' ++ b) : l = l' ∧ a = b := by
  have it := item_short (k := 11) (Nat.le_refl _) 4096 (by decide)
  unfold tEnc at h1 h2
  rw [List.append_assoc] at h1 h2
  obtain ⟨s1, e1, b1⟩ := it.fwd (l.length : Int) s _ ⟨by omega, by omega⟩ h1
  obtain ⟨s2, e2, b2⟩ := it.fwd (l'.length : Int) s _ ⟨by omega, by omega⟩ h2
  rw [e1] at e2
  simp only [Option.some.injEq, Prod.mk.injEq] at e2
  obtain ⟨hn, rfl, _⟩ := e2
  exact nodes_uniq l l' s1 a b (by omega) g1 g2 b1 b2
end Go.Proofs.Ytnlphphaajkjpaa.QTreB
