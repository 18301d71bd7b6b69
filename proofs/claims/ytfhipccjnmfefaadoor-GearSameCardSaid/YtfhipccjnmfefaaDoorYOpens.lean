/- How what a law is called with is opened: of each argument that can be read as data, the list, number or text that it is, kind by kind ('Opens'), with the bounds that the form's reach gives. No program in it. -/
import Derived.Test.YtfhipccjnmfefaaDoorWWords
import Derived.Deep.Slices
import Derived.SizedLaws
import Derived.OpenShut
namespace Go.Proofs.YtfhipccjnmfefaaDoorW.PrintWords
open Go.RowKit Go.ChangeShapes Go.WideShapes
set_option linter.unusedVariables false

/-- What reads as data at type T is of the kind d. -/
def Opens {α : Type} (P : Program) (T : TypeId) (d : Kd α) (ok : α → Prop) : Prop :=
  ∀ {H : Type} (enc : TypeId × Value → H) (w : World) (base : Nat) (spare : Nat → Bool) (held : Bool) (fuel : Nat) (cs : List Value) (x : DataW H × List MemPlace),
    DataW.trod enc P w base spare held fuel T cs = some x → (∀ n ∈ x.1.weights P T, n ≤ reachBytes) → ∃ a, d.K w a cs ∧ ok a
/-- What fields in line read as. -/
def OpensF {α : Type} (P : Program) (ts : List TypeId) (d : Kd α) (ok : α → Prop) : Prop :=
  ∀ {H : Type} (enc : TypeId × Value → H) (w : World) (base : Nat) (spare : Nat → Bool) (held : Bool) (fuel : Nat) (cs : List Value) (xs : List (DataW H × List MemPlace)),
    cs.length = d.sz → xs.length = ts.length →
    (∀ i t, ts[i]? = some t → DataW.trod enc P w base spare held fuel t ((cs.drop ((ts.take i).map P.cellsOf).sum).take (P.cellsOf t)) = xs[i]?) →
    (∀ n ∈ DataW.weightsEach P ts (xs.map (·.1)), n ≤ reachBytes) → ∃ a, d.K w a cs ∧ ok a

theorem opens_int {P : Program} {T : TypeId} {k : IntKind} (h : P.underlying T = some (.int k)) : Opens P T (Kd.int k) (fun n => (Lit.int k n).wf = true) := by
  intro H enc w base spare held fuel cs x hx _
  obtain ⟨n, rfl, rfl, hw⟩ := DataW.trod_int h hx
  exact ⟨n, rfl, hw⟩
theorem opens_string {P : Program} {T : TypeId} (h : P.underlying T = some .string) : Opens P T Kd.string (fun s => s.size ≤ 140737488351232) := by
  intro H enc w base spare held fuel cs x hx hw
  obtain ⟨s, rfl, rfl, _⟩ := DataW.trod_string h hx
  refine ⟨s, rfl, ?_⟩
  have := hw s.data.toList.length (by simp [DataW.weights])
  rwa [data_length] at this
theorem opensF_one {α : Type} {P : Program} {t : TypeId} {d : Kd α} {ok : α → Prop} (hs : d.sz = P.cellsOf t) (h : Opens P t d ok) : OpensF P [t] d ok := by
  intro H enc w base spare held fuel cs xs hc hl ht hw
  match xs, hl with
  | [x], _ =>
    have := ht 0 t rfl
    simp only [List.take_zero, List.map_nil, List.sum_nil, List.drop_zero] at this
    rw [← hs, ← hc, List.take_length] at this
    exact h enc w base spare held fuel cs x (by simpa using this) (fun n hn => hw n (by simp [DataW.weightsEach, hn]))
theorem opensF_cons {α β : Type} {P : Program} {t : TypeId} {ts : List TypeId} {a : Kd α} {b : Kd β} {oka : α → Prop} {okb : β → Prop} (hs : a.sz = P.cellsOf t) (ha : Opens P t a oka) (hb : OpensF P ts b okb) :
    OpensF P (t :: ts) (Kd.pair a b) (fun x => oka x.1 ∧ okb x.2) := by
  intro H enc w base spare held fuel cs xs hc hl ht hw
  match xs, hl with
  | x :: xs, hl =>
    have hc' : cs.length = a.sz + b.sz := hc
    have h0 := ht 0 t rfl
    simp only [List.take_zero, List.map_nil, List.sum_nil, List.drop_zero, ← hs] at h0
    obtain ⟨p, hp, hop⟩ := ha enc w base spare held fuel _ x (by simpa using h0) (fun n hn => hw n (by simp [DataW.weightsEach, hn]))
    obtain ⟨q, hq, hoq⟩ := hb enc w base spare held fuel (cs.drop a.sz) xs (by rw [List.length_drop]; omega) (by simpa using hl) (fun i u hu => by
      have := ht (i + 1) u (by simpa using hu)
      simp only [List.take_succ_cons, List.map_cons, List.sum_cons, ← hs] at this
      rw [List.drop_drop]
      simpa using this) (fun n hn => hw n (by simp [DataW.weightsEach, hn]))
    exact ⟨(p, q), ⟨cs.take a.sz, cs.drop a.sz, (List.take_append_drop _ _).symm, hp, hq⟩, hop, hoq⟩
theorem weightsEach_replicate {H : Type} {P : Program} {e : TypeId} {n : Nat} {l : List (DataW H)} (hl : l.length = n) {q : Nat} (h : q ∈ DataW.weightsEach P (List.replicate n e) l) : q ∈ DataW.weightsAll P e l := by
  induction l generalizing n with
  | nil => cases n <;> simp [DataW.weightsEach, List.replicate_succ] at h hl
  | cons y l ih =>
    cases n with
    | zero => simp at hl
    | succ n =>
      simp only [List.replicate_succ, DataW.weightsEach, List.mem_append] at h
      simp only [DataW.weightsAll, List.mem_append]
      exact h.imp id (ih (by simpa using hl))
theorem opens_array {α β : Type} {P : Program} {T e : TypeId} {n : Nat} {d : Kd α} {ok : α → Prop} (f : β → α) (g : α → β) (hfg : ∀ a, f (g a) = a) (hT : P.underlying T = some (.array n e)) (hsz : P.cellsOf T = d.sz)
    (h : OpensF P (List.replicate n e) d ok) : Opens P T (Kd.iso d f) (fun b => ok (f b)) := by
  intro H enc w base spare held fuel cs x hx hw
  obtain ⟨xs, m, rfl, rfl, hcl, hxl, hf⟩ := DataW.trod_array hT hx
  obtain ⟨a, hK, hok⟩ := h enc w base spare held m cs xs (by rw [hcl, hsz]) (by simpa using hxl) (fun i t ht => by
    have hi : i < n := by have := (List.getElem?_eq_some_iff.1 ht).1; simpa using this
    have he : t = e := by rw [List.getElem?_replicate] at ht; simp [hi] at ht; exact ht.symm
    subst he
    have h2 := hf i hi
    rw [List.take_replicate, List.map_replicate, List.sum_replicate_nat, Nat.min_eq_left (by omega)]
    exact h2) (fun q hq => hw q (by simp only [DataW.weights, hT]; exact weightsEach_replicate (by simpa using hxl) hq))
  exact ⟨g a, by show d.K w (f (g a)) cs; rw [hfg]; exact hK, by show ok (f (g a)); rw [hfg]; exact hok⟩
theorem okWide_array {P : Program} {w : World} {r : Reach} {base : Nat} {t e : TypeId} {n : Nat} {v : Value} (ht : P.underlying t = some (.array n e)) (h : Value.okWide P w r base t v) : ∃ cs, v = .agg cs ∧ cs.size = P.cellsOf t := by
  simp only [Value.okWide, ht] at h
  obtain ⟨cs, h1, h2, _⟩ := h
  exact ⟨cs, h1, h2⟩
/-- An argument, opened. -/
theorem open_arg {α : Type} {P : Program} {T : TypeId} {d : Kd α} {ok : α → Prop} (h : Opens P T d ok) {H : Type} {enc : TypeId × Value → H} {w : World} {base : Nat} {spare : Nat → Bool} {held : Bool} {v : Value} {x : DataW H} {p : List MemPlace}
    (ht : DataW.Trod enc P w base spare held T v x p) {ts : List TypeId} {ds : List (DataW H)} {j : Nat} (hsz : (DataW.weightsEach P ts ds).all (· ≤ reachBytes) = true) (h1 : ts[j]? = some T) (h2 : ds[j]? = some x) : ∃ a, d.K w a v.cells.toList ∧ ok a := by
  obtain ⟨fuel, hf⟩ := ht
  exact h enc w base spare held fuel v.cells.toList _ hf (fun n hn => of_decide_eq_true (List.all_eq_true.1 hsz n (DataW.weights_mem_each h1 h2 n hn)))
end Go.Proofs.YtfhipccjnmfefaaDoorW.PrintWords
