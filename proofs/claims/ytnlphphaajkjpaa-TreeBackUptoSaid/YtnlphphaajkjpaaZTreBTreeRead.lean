/- Trees, the plain part: what a text is as a tree: just one, by its own bytes; or none. -/
import Derived.Test.YtnlphphaajkjpaaZTreBTreeTold
namespace Go.Proofs.Ytnlphphaajkjpaa.QTreB
open Go.RowKit Go.Proofs.YtnlphphaajkjpaaW.PrintWords Go.Proofs.YtnlphphaajkjpaaW.PrintLast Go.Proofs.YtnlphphaajkjpaaW.PrintMore
set_option linter.unusedVariables false
/-- What Decode does behind the nodes. -/
def decTl (k : Nat) (x0 : ByteArray) (l : List Nd) (s : ByteArray) (e : Int) : Option (List Nd × Int) :=
  (num_Reader_End.f s e).bind fun b => (if b.1 = 0 then (if (x0.size : Int) > 65536 then (some (([] : List Nd), 190)) else ((tree_rises.f k l).bind fun t => (if t = true then (some (l, 0)) else (some (([] : List Nd), 190))))) else (some (([] : List Nd), 190)))
theorem decTl_at (k : Nat) (x0 : ByteArray) (l : List Nd) (n : Nat) (s : ByteArray) (e : Int) : tree_Decode.l0 (k + 1) x0 l (n : Int) (n : Int) s e = decTl k x0 l s e := by
  rw [tree_Decode.l0, if_neg (by omega)]; rfl
theorem decTl_err {k : Nat} {x0 : ByteArray} {l : List Nd} {s : ByteArray} {e : Int} (he : e ≠ 0) : decTl k x0 l s e = some ([], 190) := by
  unfold decTl
  rw [bnd (end_told s e)]
  dsimp only
  rw [if_neg]
  split
  · exact he
  · first | exact he | (rw [if_neg he]; exact he)
theorem dec_round {k : Nat} {x0 : ByteArray} {acc : List Nd} {n i : Nat} {s s' : ByteArray} {x : Nd} (hi : i < n) (hn : n ≤ 4096) (ha : acc.length ≤ 4096) (h : node_Read.f k s 0 = some (x.f0, x.f1, x.f2, x.f3, x.f4, x.f5, x.f6, x.f7, x.f8, s', 0)) :
    tree_Decode.l0 (k + 1) x0 acc (n : Int) (i : Int) s 0 = tree_Decode.l0 k x0 (acc ++ [x]) (n : Int) ((i + 1 : Nat) : Int) s' 0 := by
  have hw : wrap64 ((i : Int) + 1) = ((i + 1 : Nat) : Int) := by unfold wrap64; omega
  rw [tree_Decode.l0, if_pos (by omega), bnd h]
  dsimp only
  rw [bnd (rerr_told s' 0)]
  dsimp only
  rw [if_pos rfl, if_pos (by omega), hw]
theorem dec_l0 (x0 : ByteArray) (n : Nat) (hn : n ≤ 4096) : ∀ (d i : Nat) (acc : List Nd) (s : ByteArray) (k : Nat), i + d = n → acc.length = i → d + 30000 ≤ k →
    (∃ (new : List Nd) (s' : ByteArray) (k1 : Nat), new.length = d ∧ (∀ x ∈ new, Good x) ∧ bytesOf s = new.flatMap nEnc ++ bytesOf s' ∧ 20000 ≤ k1 ∧ tree_Decode.l0 k x0 acc (n : Int) (i : Int) s 0 = decTl k1 x0 (acc ++ new) s' 0) ∨
    tree_Decode.l0 k x0 acc (n : Int) (i : Int) s 0 = some ([], 190) := by
  intro d
  induction d with
  | zero =>
    intro i acc s k hi _ hk
    obtain ⟨k, rfl⟩ : ∃ q, k = q + 1 := ⟨k - 1, by omega⟩
    obtain rfl : i = n := by omega
    exact .inl ⟨[], s, k, rfl, fun x hx => by simp at hx, rfl, by omega, by rw [decTl_at, List.append_nil]⟩
  | succ d ih =>
    intro i acc s k hi ha hk
    obtain ⟨k, rfl⟩ : ∃ q, k = q + 1 := ⟨k - 1, by omega⟩
    rcases read_told (k := k) (by omega) s 0 with ⟨x, s', _, hr, hg, hb, _⟩ | ⟨s', e', he, _, hr, _⟩
    · rw [dec_round (by omega) hn (by omega) hr]
      rcases ih (i + 1) (acc ++ [x]) s' k (by omega) (by rw [List.length_append, ha]; rfl) (by omega) with ⟨new, s2, k1, h1, h2, h3, h4, h5⟩ | h
      · refine .inl ⟨x :: new, s2, k1, by rw [List.length_cons, h1], fun y hy => ?_, ?_, h4, ?_⟩
        · rcases List.mem_cons.1 hy with rfl | hy
          · exact hg
          · exact h2 y hy
        · rw [hb, h3, List.flatMap_cons, List.append_assoc]
        · rw [h5, List.append_assoc]; rfl
      · exact .inr h
    · right
      rw [tree_Decode.l0, if_pos (by omega), bnd hr]
      dsimp only
      rw [bnd (rerr_told s' e')]
      dsimp only
      rw [if_neg he]
theorem dec_fwd (x0 : ByteArray) (n : Nat) (hn : n ≤ 4096) (rest : List Int) : ∀ (new acc : List Nd) (s : ByteArray) (k : Nat), acc.length + new.length = n → (∀ x ∈ new, Good x) → bytesOf s = new.flatMap nEnc ++ rest → new.length + 30000 ≤ k →
    ∃ s' k1, bytesOf s' = rest ∧ 20000 ≤ k1 ∧ tree_Decode.l0 k x0 acc (n : Int) (acc.length : Int) s 0 = decTl k1 x0 (acc ++ new) s' 0 := by
  intro new
  induction new with
  | nil =>
    intro acc s k hi _ hs hk
    obtain ⟨k, rfl⟩ : ∃ q, k = q + 1 := ⟨k - 1, by omega⟩
    obtain rfl : acc.length = n := by simpa using hi
    exact ⟨s, k, by simpa using hs, by omega, by rw [decTl_at, List.append_nil]⟩
  | cons x new ih =>
    intro acc s k hi hg hs hk
    rw [List.length_cons] at hi hk
    obtain ⟨k, rfl⟩ : ∃ q, k = q + 1 := ⟨k - 1, by omega⟩
    rw [List.flatMap_cons, List.append_assoc] at hs
    obtain ⟨s1, hr, hb⟩ := read_fwd (k := k) (by omega) (hg x (List.mem_cons_self ..)) s _ hs
    obtain ⟨s', k1, h1, h2, h3⟩ := ih (acc ++ [x]) s1 k (by rw [List.length_append, List.length_singleton]; omega) (fun y hy => hg y (List.mem_cons_of_mem _ hy)) hb (by omega)
    refine ⟨s', k1, h1, h2, ?_⟩
    rw [dec_round (by omega) hn (by omega) hr, show acc.length + 1 = (acc ++ [x]).length by simp, h3, List.append_assoc]
    rfl
/-- What a text is as a tree. -/
theorem tdecode_told (s : ByteArray) {k : Nat} (hk : 60000 ≤ k) :
    (∃ l : List Nd, tree_Decode.f k s = some (l, 0) ∧ (∀ x ∈ l, Good x) ∧ l.length ≤ 4096 ∧ s.size ≤ 65536 ∧ (∀ q, l.length < q → tree_rises.f q l = some true) ∧ bytesOf s = tEnc l) ∨ tree_Decode.f k s = some ([], 190) := by
  have hf : ∀ r, num_Reader_Short.f k s 0 4096 = some r → tree_Decode.f k s = tree_Decode.l0 k s [] r.1 0 r.2.1 r.2.2 := fun r hr => by
    unfold tree_Decode.f num_Read.f
    dsimp only [Option.bind_some]
    rw [bnd hr]
  rcases short_cases (k := k) (by omega) s 4096 with ⟨c, hc, hr⟩ | ⟨m, len, he, hl, hm, hr⟩
  · right
    obtain ⟨k, rfl⟩ : ∃ q, k = q + 1 := ⟨k - 1, by omega⟩
    rw [hf _ hr]
    dsimp only
    exact (decTl_at k s [] 0 s c).trans (decTl_err hc)
  · have hm' : m ≤ 4096 := by omega
    rw [hf _ hr]
    dsimp only
    have hsp : bytesOf s = encS m ++ bytesOf (s.extract len s.size) := by rw [he, ext_drop, List.take_append_drop]
    rcases dec_l0 s m hm' m 0 [] (s.extract len s.size) k (by omega) rfl (by omega) with ⟨l, s', k1, h1, h2, h3, h4, h5⟩ | h
    · rw [List.nil_append] at h5
      rw [show tree_Decode.l0 k s [] (m : Int) 0 (s.extract len s.size) 0 = _ from h5]
      obtain ⟨r, hrs⟩ := rises_tot l (by omega)
      unfold decTl
      rw [bnd (end_told s' 0)]
      dsimp only
      by_cases hz : s'.size = 0
      · rw [if_pos hz, if_pos rfl]
        by_cases c2 : (s.size : Int) > 65536
        · rw [if_pos c2]; exact .inr rfl
        · rw [if_neg c2, bnd (hrs k1 (by omega))]
          cases r with
          | false => rw [if_neg (by decide)]; exact .inr rfl
          | true =>
            rw [if_pos rfl]
            have hz' : bytesOf s' = [] := List.length_eq_zero_iff.1 (by rw [bytesOf_size]; exact hz)
            refine .inl ⟨l, rfl, h2, by omega, by omega, hrs, ?_⟩
            rw [hsp, h3, hz', List.append_nil]
            unfold tEnc
            rw [h1]
      · rw [if_neg hz, if_pos rfl, if_neg (by decide)]; exact .inr rfl
    · rw [show tree_Decode.l0 k s [] (m : Int) 0 (s.extract len s.size) 0 = _ from h]; exact .inr rfl
theorem tdecode_fwd (l : List Nd) (hg : ∀ x ∈ l, Good x) (hl : l.length ≤ 4096) (hr : ∀ q, l.length < q → tree_rises.f q l = some true) (s : ByteArray) (hs : bytesOf s = tEnc l) (hz : s.size ≤ 65536) {k : Nat} (hk : 60000 ≤ k) : tree_Decode.f k s = some (l, 0) := by
  unfold tEnc at hs
  obtain ⟨s1, e1, b1⟩ := (item_short (k := k) (by omega) 4096 (by decide)).fwd (l.length : Int) s _ ⟨by omega, by omega⟩ (by rw [Int.toNat_natCast]; exact hs)
  try dsimp only at e1
  obtain ⟨s', k1, h1, h2, h3⟩ := dec_fwd s l.length hl [] l [] s1 k (by simp) hg (by rw [List.append_nil]; exact b1) (by omega)
  unfold tree_Decode.f num_Read.f
  dsimp only [Option.bind_some]
  rw [bnd e1]
  dsimp only
  rw [show tree_Decode.l0 k s [] (l.length : Int) 0 s1 0 = _ from h3, List.nil_append]
  unfold decTl
  rw [bnd (end_told s' 0)]
  dsimp only
  have hz' : s'.size = 0 := by rw [← bytesOf_size, h1]; rfl
  rw [if_pos hz', if_pos rfl, if_neg (by omega), bnd (hr k1 (by omega)), if_pos rfl]
/-- A tree's text, cut short, is none's. -/
theorem tdecode_cut (l : List Nd) (hg : ∀ x ∈ l, Good x) (hl : l.length ≤ 4096) (s u : ByteArray) (hs : bytesOf s = tEnc l) (more : List Int) (hm : more ≠ []) (hu : bytesOf s = bytesOf u ++ more) {k : Nat} (hk : 60000 ≤ k) : tree_Decode.f k u = some ([], 190) := by
  rcases tdecode_told u hk with ⟨l', _, hg', hl', _, _, hb⟩ | h
  · exfalso
    rw [hb] at hu
    have := (tree_uniq hl' hl hg' hg s more [] hu (by rw [List.append_nil]; exact hs)).2
    exact hm this
  · exact h
theorem tEnc_pos (l : List Nd) : 0 < (tEnc l).length := by
  unfold tEnc
  rw [List.length_append]
  have : 0 < (encS l.length).length := encS_pos _
  omega
end Go.Proofs.Ytnlphphaajkjpaa.QTreB
