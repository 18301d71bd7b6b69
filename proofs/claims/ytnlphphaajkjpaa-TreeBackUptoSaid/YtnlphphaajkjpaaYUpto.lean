/- As XYOpens, with the bulk of what is read: each value's own measure is at most the reading's bulk. -/
import Derived.Test.YtnlphphaajkjpaaYOpens
import Derived.Test.YtnlphphaajkjpaaRows
import Derived.JoinedCond
import Derived.SizedLaws
namespace Go.Proofs.YtnlphphaajkjpaaW.PrintWords
open Go.RowKit Go.ChangeShapes Go.WideShapes
open Go.Proofs.Ytnlphphaajkjpaa.Rows (uptoBulk uptoBulkAll)
set_option linter.unusedVariables false
theorem bulkAll_sum {H : Type} : ∀ l : List (DataW H), uptoBulkAll l = (l.map uptoBulk).sum
  | [] => by simp [uptoBulkAll]
  | d :: l => by rw [uptoBulkAll, bulkAll_sum l]; simp
/-- What reads as data at type T is of the kind d, and of the measure bk at most its bulk. -/
def OpensU {α : Type} (P : Program) (T : TypeId) (d : Kd α) (ok : α → Prop) (bk : α → Nat) : Prop :=
  ∀ {H : Type} (enc : TypeId × Value → H) (w : World) (base : Nat) (spare : Nat → Bool) (held : Bool) (fuel : Nat) (cs : List Value) (x : DataW H × List MemPlace),
    DataW.trod enc P w base spare held fuel T cs = some x → (∀ n ∈ x.1.weights P T, n ≤ reachBytes) → ∃ a, d.K w a cs ∧ ok a ∧ bk a ≤ uptoBulk x.1
def OpensFU {α : Type} (P : Program) (ts : List TypeId) (d : Kd α) (ok : α → Prop) (bk : α → Nat) : Prop :=
  ∀ {H : Type} (enc : TypeId × Value → H) (w : World) (base : Nat) (spare : Nat → Bool) (held : Bool) (fuel : Nat) (cs : List Value) (xs : List (DataW H × List MemPlace)),
    cs.length = d.sz → xs.length = ts.length →
    (∀ i t, ts[i]? = some t → DataW.trod enc P w base spare held fuel t ((cs.drop ((ts.take i).map P.cellsOf).sum).take (P.cellsOf t)) = xs[i]?) →
    (∀ n ∈ DataW.weightsEach P ts (xs.map (·.1)), n ≤ reachBytes) → ∃ a, d.K w a cs ∧ ok a ∧ bk a ≤ uptoBulkAll (xs.map (·.1))
theorem opensU_int {P : Program} {T : TypeId} {k : IntKind} (h : P.underlying T = some (.int k)) : OpensU P T (Kd.int k) (fun n => (Lit.int k n).wf = true) (fun _ => 1) := by
  intro H enc w base spare held fuel cs x hx _
  obtain ⟨n, rfl, rfl, hw⟩ := DataW.trod_int h hx
  exact ⟨n, rfl, hw, by simp [uptoBulk]⟩
theorem opensU_string {P : Program} {T : TypeId} (h : P.underlying T = some .string) : OpensU P T Kd.string (fun s => s.size ≤ 140737488351232) (fun s => s.size + 1) := by
  intro H enc w base spare held fuel cs x hx hw
  obtain ⟨s, rfl, rfl, _⟩ := DataW.trod_string h hx
  refine ⟨s, rfl, ?_, ?_⟩
  · have := hw s.data.toList.length (by simp [DataW.weights])
    rwa [data_length] at this
  · have : s.data.toList.length = s.size := data_length s
    simp [uptoBulk]
theorem sum_upto {α : Type} (bk : α → Nat) (u : Nat → Nat) : ∀ (xs : List α) (m : Nat), (∀ i p, xs[i]? = some p → bk p ≤ u (m + i)) → (xs.map bk).sum ≤ ((List.range' m xs.length).map u).sum
  | [], _, _ => by simp
  | x :: xs, m, h => by
    have h0 := h 0 x rfl
    have ih := sum_upto bk u xs (m + 1) (fun i p hp => by have := h (i + 1) p (by simpa using hp); rwa [show m + (i + 1) = m + 1 + i by omega] at this)
    simp only [List.map_cons, List.sum_cons, List.length_cons, List.range'_succ]
    simp only [Nat.add_zero] at h0
    omega
theorem opensU_slice {α : Type} {P : Program} {T e : TypeId} {d : Kd α} {ok : α → Prop} {bk : α → Nat} {B : Nat} (hT : P.underlying T = some (.slice e)) (hB : P.bytesOf e = B) (hsz : P.cellsOf e = d.sz) (h : OpensU P e d ok bk) :
    OpensU P T (Kd.slice e d) (fun xs => xs.length ≤ maxLen ∧ xs.length * B ≤ 140737488351232 ∧ ∀ x ∈ xs, ok x) (fun xs => (xs.map bk).sum + 1) := by
  intro H enc w base spare held fuel cs x hx hw
  rcases Deep.open_slice hT hx with ⟨rfl, rfl⟩ | ⟨a, len, cap, m, n, D, Pl, rfl, hb, hl, hm, hmm, rfl, hel⟩
  · exact ⟨[], ⟨none, 0, rfl, Nat.le_refl _, rfl, by simp, fun h => absurd h (by simp)⟩, ⟨by simp [maxLen], by simp, by simp⟩, by simp [uptoBulk]⟩
  · have hlm : len ≤ m := by rw [hmm]; split <;> omega
    obtain ⟨xs, hxl, hxs⟩ := list_upto (n := len) (Q := fun i a' => ok a' ∧ bk a' ≤ uptoBulk (D i) ∧ ∃ cs', cs'.length = d.sz ∧ d.K w a' cs' ∧ ∀ j u, cs'[j]? = some u → w.cell? (a.add (i * d.sz + j)) = some u) (fun i hi => by
      obtain ⟨cs', h1, h2⟩ := hel i (by omega)
      obtain ⟨_, h3, h4⟩ := World.cells?_some h1
      obtain ⟨a', hK, hok, hbk⟩ := h enc w base spare held n cs' _ h2 (fun q hq => hw q (by
        simp only [DataW.weights, hT]
        refine List.mem_cons_of_mem _ (List.mem_append_left _ (mem_weightsAll (d := D i) ?_ hq))
        exact List.mem_map.2 ⟨i, List.mem_range.2 hi, rfl⟩))
      refine ⟨a', hok, hbk, cs', by rw [h3, hsz], hK, fun j u hu => ?_⟩
      have hj : j < P.cellsOf e := by have := (List.getElem?_eq_some_iff.1 hu).1; omega
      rw [← hsz, ← Deep.add_add, h4 j hj]
      exact hu)
    have hw0 := hw _ (by simp only [DataW.weights, hT]; exact List.mem_cons_self ..)
    simp only [List.length_map, List.length_range] at hw0
    rw [hB] at hw0
    refine ⟨xs, ⟨some a, cap, by rw [hxl], by omega, rfl, by unfold maxLen at hm; omega, fun _ => ⟨a, rfl, fun j p hp => ?_⟩⟩, ⟨by omega, ?_, fun x hx => ?_⟩, ?_⟩
    · obtain ⟨_, _, cs', h5, h6, h7⟩ := hxs j p hp
      exact ⟨cs', h5, h6, h7⟩
    · rw [hxl]
      exact Nat.le_trans (Nat.mul_le_mul_right _ (Nat.le_add_right _ _)) hw0
    · obtain ⟨i, hi⟩ := List.mem_iff_getElem?.1 hx
      exact (hxs i x hi).1
    · have hs := sum_upto bk (fun i => uptoBulk (D i)) xs 0 (fun i p hp => by rw [Nat.zero_add]; exact (hxs i p hp).2.1)
      have he : ((List.range len).map D).map uptoBulk = (List.range' 0 xs.length).map (fun i => uptoBulk (D i)) := by rw [List.map_map, hxl, List.range_eq_range']; rfl
      simp only [uptoBulk]
      rw [bulkAll_sum ((List.range len).map D), he]
      omega
theorem opensFU_one {α : Type} {P : Program} {t : TypeId} {d : Kd α} {ok : α → Prop} {bk : α → Nat} (hs : d.sz = P.cellsOf t) (h : OpensU P t d ok bk) : OpensFU P [t] d ok bk := by
  intro H enc w base spare held fuel cs xs hc hl ht hw
  match xs, hl with
  | [x], _ =>
    have := ht 0 t rfl
    simp only [List.take_zero, List.map_nil, List.sum_nil, List.drop_zero] at this
    rw [← hs, ← hc, List.take_length] at this
    obtain ⟨a, h1, h2, h3⟩ := h enc w base spare held fuel cs x (by simpa using this) (fun n hn => hw n (by simp [DataW.weightsEach, hn]))
    exact ⟨a, h1, h2, by simp [uptoBulkAll]; omega⟩
theorem opensFU_cons {α β : Type} {P : Program} {t : TypeId} {ts : List TypeId} {a : Kd α} {b : Kd β} {oka : α → Prop} {okb : β → Prop} {bka : α → Nat} {bkb : β → Nat} (hs : a.sz = P.cellsOf t) (ha : OpensU P t a oka bka) (hb : OpensFU P ts b okb bkb) :
    OpensFU P (t :: ts) (Kd.pair a b) (fun x => oka x.1 ∧ okb x.2) (fun x => bka x.1 + bkb x.2) := by
  intro H enc w base spare held fuel cs xs hc hl ht hw
  match xs, hl with
  | x :: xs, hl =>
    have hc' : cs.length = a.sz + b.sz := hc
    have h0 := ht 0 t rfl
    simp only [List.take_zero, List.map_nil, List.sum_nil, List.drop_zero, ← hs] at h0
    obtain ⟨p, hp, hop, hbp⟩ := ha enc w base spare held fuel _ x (by simpa using h0) (fun n hn => hw n (by simp [DataW.weightsEach, hn]))
    obtain ⟨q, hq, hoq, hbq⟩ := hb enc w base spare held fuel (cs.drop a.sz) xs (by rw [List.length_drop]; omega) (by simpa using hl) (fun i u hu => by
      have := ht (i + 1) u (by simpa using hu)
      simp only [List.take_succ_cons, List.map_cons, List.sum_cons, ← hs] at this
      rw [List.drop_drop]
      simpa using this) (fun n hn => hw n (by simp [DataW.weightsEach, hn]))
    exact ⟨(p, q), ⟨cs.take a.sz, cs.drop a.sz, (List.take_append_drop _ _).symm, hp, hq⟩, ⟨hop, hoq⟩, by simp only [List.map_cons, uptoBulkAll]; omega⟩
theorem opensU_struct {α β : Type} {P : Program} {T : TypeId} {fs : Array Field} {ts : List TypeId} {d : Kd α} {ok : α → Prop} {bk : α → Nat} (f : β → α) (g : α → β) (hfg : ∀ a, f (g a) = a) (hT : P.underlying T = some (.struct fs)) (hsz : P.cellsOf T = d.sz)
    (hts : fs.toList.map (fun z => (z.type, z.offset)) = (List.range ts.length).map (fun i => (ts.getD i 0, ((ts.take i).map P.cellsOf).sum))) (h : OpensFU P ts d ok bk) : OpensU P T (Kd.iso d f) (fun b => ok (f b)) (fun b => bk (f b) + 1) := by
  intro H enc w base spare held fuel cs x hx hw
  obtain ⟨xs, n, rfl, rfl, hcl, hxl, hf⟩ := DataW.trod_struct hT hx
  have hlen : fs.size = ts.length := by
    have := congrArg List.length hts
    simpa using this
  have htyp : fs.toList.map (fun z => z.type) = ts := by
    have h1 := congrArg (List.map Prod.fst) hts
    rw [List.map_map, List.map_map] at h1
    refine Eq.trans (by simpa [Function.comp_def] using h1) ?_
    apply List.ext_getElem?
    intro i
    by_cases hi : i < ts.length
    · simp [hi]
    · simp [hi]
  obtain ⟨a, hK, hok, hbk⟩ := h enc w base spare held n cs xs (by rw [hcl, hsz]) (by rw [hxl, hlen]) (fun i t ht => by
    have hi : i < ts.length := (List.getElem?_eq_some_iff.1 ht).1
    have hfi : fs[i]? = some fs[i] := Array.getElem?_eq_getElem (by omega)
    have h1 := congrArg (·[i]?) hts
    simp only [List.getElem?_map, List.getElem?_range hi, Array.getElem?_toList, hfi, Option.map_some, Option.some.injEq, Prod.mk.injEq] at h1
    have h2 := hf i fs[i] hfi
    rw [h1.1, h1.2] at h2
    rw [show ts.getD i 0 = t by rw [List.getD_eq_getElem?_getD, ht]; rfl] at h2
    exact h2) (fun q hq => hw q (by simp only [DataW.weights, hT, htyp]; exact hq))
  exact ⟨g a, by show d.K w (f (g a)) cs; rw [hfg]; exact hK, by show ok (f (g a)); rw [hfg]; exact hok, by show bk (f (g a)) + 1 ≤ _; rw [hfg]; simp only [uptoBulk]; omega⟩
/-- An argument, opened. -/
theorem open_argU {α : Type} {P : Program} {T : TypeId} {d : Kd α} {ok : α → Prop} {bk : α → Nat} (h : OpensU P T d ok bk) {H : Type} {enc : TypeId × Value → H} {w : World} {base : Nat} {spare : Nat → Bool} {held : Bool} {v : Value} {x : DataW H} {p : List MemPlace}
    (ht : DataW.Trod enc P w base spare held T v x p) {ts : List TypeId} {ds : List (DataW H)} {j : Nat} (hsz : (DataW.weightsEach P ts ds).all (· ≤ reachBytes) = true) (h1 : ts[j]? = some T) (h2 : ds[j]? = some x) : ∃ a, d.K w a v.cells.toList ∧ ok a ∧ bk a ≤ uptoBulk x := by
  obtain ⟨fuel, hf⟩ := ht
  exact h enc w base spare held fuel v.cells.toList _ hf (fun n hn => of_decide_eq_true (List.all_eq_true.1 hsz n (DataW.weights_mem_each h1 h2 n hn)))
/-- A row under a condition on the reading, with the form's own bound on its weights. -/
theorem returnsInHanded_of_cond_sized {H : Type} {enc : TypeId × Value → H} {a : Assume} {C : Checked} {os : Os} {f : FuncId} {fn : Func} {s : OpenSpec} {k : (H : Type) → List (DataW H) → Bool} (hk : s.cond = some k) {F : Stop.Interp} {conds : List PathCond} {apart fresh handsOn again : Bool}
    (own : ownKnob C.prog.godebug = none) (started : os.Started) (noInit : C.prog.inits.idxOf? f = none) (hfn : C.prog.funcs[f]? = some fn)
    (witness : ∃ (w : World) (tape : Tape) (i : Input), w.os = os ∧ (w.forCall tape i).Shaped C.prog ∧ i.vars = [] ∧ Input.okWide C.prog (w.forCall tape i) .any w.heap.size f i ∧
      s.pre6 enc C.prog fn conds apart (w.forCall tape i).memory i.args ∧ a.holds C.prog (lone (Frame.enter C.prog f i.args .normal) [] (w.forCall tape i)))
    (contract : ∀ (W : World) (base : Nat) (args : Array Value) (ds gs : List (DataW H)) (before : List MemPlace),
      (∀ (j : Nat) t v, fn.params[j]? = some t → args[j]? = some v → Value.okWide C.prog W .any base t v) →
      DataW.Whole enc C.prog fn.params.toList s.vars apart W args.toList ds gs before →
      k H (ds ++ gs) = true → (DataW.weightsEach C.prog (fn.params.toList ++ s.bare.plain.varTypes C.prog) (ds ++ gs)).all (· ≤ reachBytes) = true →
      Calls C.prog f args W fun e W' => ∃ v, e = .returned v ∧ (s.at F).post enc C.prog fn apart fresh handsOn again W args v W') :
    ReturnsInHanded a C os f .any (s.pre6 enc C.prog fn conds apart) ((s.at F).post enc C.prog fn apart fresh handsOn again) := by
  refine returnsInHanded_of_calls own started noInit witness ?_
  intro w tape i _ _ _ hok hpre hholds
  obtain ⟨_, _, _, fn', hfn', _, _, _, _, hval⟩ := hok
  have e : fn' = fn := Option.some.inj (hfn'.symm.trans hfn)
  subst e
  obtain ⟨ds, gs, before, hw, hc, hkk⟩ := (OpenSpec.pre_some hk conds apart _ _).1 hpre.1
  have hsz := hpre.2.weights hw
  have hw' := DataW.Whole.of_heap (w' := w.forCall tape i) (by rfl) hw
  refine (contract (w.forCall tape i) w.heap.size i.args ds gs before hval hw' hkk hsz).mono fun e W' ⟨v, he, hp⟩ => ?_
  subst he
  exact ChangeSpec.post_blind hp
/-- Its witness, read by the kernel. -/
theorem witness_of_any {H : Type} {enc : TypeId × Value → H} {C : Checked} {os : Os} {f : FuncId} {fn : Func} {s : OpenSpec} {k : (H : Type) → List (DataW H) → Bool} (hk : s.cond = some k) {conds : List PathCond} {apart : Bool} (modest : Bool) (i : Input) (fuel : Nat)
    (hv : (World.plainHolding C.prog os i).variablesB C.prog = true)
    (hr : ((World.plainHolding C.prog os i).heap.toList.drop C.prog.globals.size).take ((begin C.prog (fun _ _ => 0) default).world.heap.size - C.prog.globals.size) =
      (begin C.prog (fun _ _ => 0) default).world.heap.toList.drop C.prog.globals.size)
    (hok : Input.okWideB C.prog (World.plainHolding C.prog os i) f ⟨#[], i.args, []⟩ = true)
    (hx : (DataW.whole enc C.prog (World.plainHolding C.prog os i).memory fn.params.toList s.vars apart i.args.toList fuel).any (fun x => conds.all (PathCond.test C.prog ⟨fn.params.toList, x.1, s.bare.plain.varTypes C.prog, x.2.1⟩) && k H (x.1 ++ x.2.1)) = true)
    (hsz : s.bare.sizedB enc C.prog fn apart (World.plainHolding C.prog os i).memory i.args fuel = true) :
    ∃ (w : World) (tape : Tape) (i : Input), w.os = os ∧ (w.forCall tape i).Shaped C.prog ∧ i.vars = [] ∧ Input.okWide C.prog (w.forCall tape i) .any w.heap.size f i ∧
      s.pre6 enc C.prog fn conds apart (w.forCall tape i).memory i.args ∧ ({ modest := modest } : Assume).holds C.prog (lone (Frame.enter C.prog f i.args .normal) [] (w.forCall tape i)) := by
  generalize hq : DataW.whole enc C.prog (World.plainHolding C.prog os i).memory fn.params.toList s.vars apart i.args.toList fuel = q at hx
  cases q with
  | none => simp at hx
  | some x =>
    simp only [Option.any_some, Bool.and_eq_true] at hx
    exact OpenSpec.witness hk modest i fuel hv hr hok hq hx.1 hx.2 hsz
end Go.Proofs.YtnlphphaajkjpaaW.PrintWords
