-- Written for this claim by a program of this session.
import Derived.Test.YtfhipccjnmfefaaDoorQGearx0
import Derived.Test.YtfhipccjnmfefaaDoorQGearx1
import Derived.Test.YtfhipccjnmfefaaDoorQGearx2
namespace Go.Proofs.YtfhipccjnmfefaaDoor.QGear
open Go.RowKit Go.Proofs.YtfhipccjnmfefaaDoorW.PrintWords Go.Proofs.YtfhipccjnmfefaaDoorW.PrintLast Go.Proofs.YtfhipccjnmfefaaDoorW.PrintMore
attribute [local go_sem] max2_int min2_int max_two min_two max_three min_three max_four min_four   -- for this text's walks alone
set_option linter.unusedVariables false
set_option linter.unusedSimpArgs false

/-! ### garretlaw11_GearSame: function 3, by hand -/
section
open Go.Maps
/-- What the map of the first text's cuts holds, newest first: how much is left, and the place behind. -/
def garretlaw11_GearSame.ents : List ByteArray → Int → Int → List (Int × Int) → List (Int × Int)
  | [], _, _, acc => acc
  | c :: r, left, i, acc => garretlaw11_GearSame.ents r (wrap64 (left - (c.size : Int))) (wrap64 (i + 1)) ((wrap64 (left - (c.size : Int)), wrap64 (i + 1)) :: acc)
def garretlaw11_GearSame.look (es : List (Int × Int)) (x : Int) : Option Int := (es.find? (fun p => p.1 == x)).map (·.2)
def garretlaw11_GearSame.loop (k : Nat) (a b : List ByteArray) (n : Int) (es : List (Int × Int)) : List ByteArray → Int → Nat → Option Bool
  | [], _, _ => none
  | c :: r, left, i => match garretlaw11_GearSame.look es (wrap64 (left - (c.size : Int))) with
    | some v => if wrap64 (left - (c.size : Int)) ≤ n then (if 0 ≤ v ∧ v ≤ (a.length : Int) then garretbook_SameTexts.f k (a.drop v.toNat) (b.drop (i + 1)) else none) else garretlaw11_GearSame.loop k a b n es r (wrap64 (left - (c.size : Int))) (i + 1)
    | none => garretlaw11_GearSame.loop k a b n es r (wrap64 (left - (c.size : Int))) (i + 1)
def garretlaw11_GearSame.f (k : Nat) (a0_0 a0_1 a0_2 : Int) (a1_0 a1_1 a2 : ByteArray) : Option Bool := (garretlaw11_works.f k).bind fun o => if o = true then (if (a1_0.size : Int) > 1000 then some true else if (a1_1.size : Int) > 1000 then some true else if (a2.size : Int) > 1000 then some true else
  (garretlaw11_setup.f a0_0 a0_1 a0_2).bind fun x => (gear_Chunks.f k x.1 x.2.1 x.2.2 (a1_0 ++ a2)).bind fun a => (gear_Chunks.f k x.1 x.2.1 x.2.2 (a1_1 ++ a2)).bind fun b =>
    if a.2 = 0 ∧ b.2 = 0 ∧ a.1.length ≤ 2000 then (if wrap64 ((a1_1.size : Int) + (a2.size : Int)) = 0 then (if b.1.length = 0 then some true else none)
      else garretlaw11_GearSame.loop k a.1 b.1 (a2.size : Int) (garretlaw11_GearSame.ents a.1 (wrap64 ((a1_0.size : Int) + (a2.size : Int))) 0 [(wrap64 ((a1_0.size : Int) + (a2.size : Int)), 0)]) b.1 (wrap64 ((a1_1.size : Int) + (a2.size : Int))) 0) else none) else none
/-- The map's datum says what the list says. -/
def garretlaw11_GearSame.Rep (es : List (Int × Int)) (D : DataW Unit) : Prop := IsMap D ∧ ∀ x : Int, (Lit.int .i64 x).wf = true → Maps.has D (.int .i64 x) = (garretlaw11_GearSame.look es x).isSome ∧ (∀ v, garretlaw11_GearSame.look es x = some v → D.atKey (.int .i64 x) (.lit (.int .i64 0)) = .lit (.int .i64 v))
theorem garretlaw11_GearSame.rep_nil : garretlaw11_GearSame.Rep [] (.map []) := ⟨isMap_empty, fun x _ => ⟨rfl, fun v h => by simp [garretlaw11_GearSame.look] at h⟩⟩
theorem garretlaw11_GearSame.rep_put {es : List (Int × Int)} {D : DataW Unit} (h : garretlaw11_GearSame.Rep es D) (x v : Int) (hx : (Lit.int .i64 x).wf = true) : garretlaw11_GearSame.Rep ((x, v) :: es) (D.put (.int .i64 x) (.lit (.int .i64 v))) := by
  refine ⟨h.1.put _ _, fun y hy => ?_⟩
  have hk : WideAt.IsKeyLit (.int .i64 x) := by trivial
  by_cases e : x = y
  · subst e
    have hl : garretlaw11_GearSame.look ((x, v) :: es) x = some v := by simp [garretlaw11_GearSame.look]
    rw [hl]
    refine ⟨has_put_same h.1 hk _, fun u hu => ?_⟩
    obtain rfl := Option.some.inj hu
    exact atKey_put_same h.1 hk _ _
  · have hl : garretlaw11_GearSame.look ((x, v) :: es) y = garretlaw11_GearSame.look es y := by
      have : (x == y) = false := beq_eq_false_iff_ne.mpr e
      simp [garretlaw11_GearSame.look, this]
    have hne : (Lit.int .i64 y) ≠ (Lit.int .i64 x) := fun z => e (by injection z with _ z2; exact z2.symm)
    rw [hl]
    refine ⟨(has_put_other hne _).trans (h.2 y hy).1, fun u hu => ?_⟩
    rw [atKey_put_other hne]
    exact (h.2 y hy).2 u hu
section
variable {P : Program}
theorem garretlaw11_GearSame.insert_own {H : Type} (w : World) {ops : Array Oper} {rest : List Oper} {o : Oper} {a : Act} {Q : Exit → Act → World → Prop}
    (hg : o.guard = none) (m x v : Operand) (t : TypeId) (hop : o.op = Op.insert t m x v)
    (k e : TypeId) (K : Keyed P k) (ht : P.underlying t = some (.map k e)) (R : Value → Option (DataW H × List MemPlace)) (b n : Nat) (D : DataW H)
    (hm : a.eval m = .map (some b)) (hown : w.ownsMap P k R b n D) (hn : n < maxLen) (key val : Value) (kl : Lit) (hx : a.eval x = key) (hv : a.eval v = val) (hkey : keyOf P k key = some kl)
    (d : DataW H) (ps : List MemPlace) (hval : R val = some (d, ps))
    (hK : ∀ w', w'.ownsMap P k R b (n + 1) (D.put kl d) → w.grownBy w' (some b) → wpList P ops Q rest (a.put o.dst undef) w') :
    wpList P ops Q (o :: rest) a w := by
  refine wpList_plain hg fun K' hK' => ?_
  obtain ⟨w', hrun, r1, r2⟩ := hown.update K ht hn hkey hval
  unfold Oper.wp
  simp [execOp, hop, hm, hx, hv, hrun, Result.andThen]
  exact hK' _ _ (hK w' r1 r2)
end
theorem garretlaw11_GearSame.info : (Tryd.prog.info? 9).map (fun i => (i.zero, i.size, i.bytes)) = some (some (.string ByteArray.empty), 1, 16) := by kernel_rfl
theorem garretlaw11_GearSame.cut_at (A : Option Addr) (n c m : Nat) (hm : m ≤ n) (W : World) :
    (Instr.slice 28 (.slice A n c) (some (.int .i64 (m : Int))) none none).run Tryd.prog W = .ok (.slice (if c = m then A else A.map (·.add (m * 1))) (n - m) (c - m)) W := by
  obtain ⟨i0, hi, hzz⟩ := Option.map_eq_some_iff.1 garretlaw11_GearSame.info
  simp only [Prod.mk.injEq] at hzz
  have ht := Tryd.underlying28
  have hel : Tryd.prog.elem 28 = 9 := by simp [Program.elem, ht]
  have hu : Tryd.prog.underlying 28 = some (.slice (Tryd.prog.elem 28)) := by rw [hel]; exact ht
  rw [run_slice_l W 28 A n c hu .i64 (m : Int) (by omega) (by omega), hel]
  simp [sizeOf, typeInfo, hi, hzz.2.1, sliced, Result.andThen]
theorem garretlaw11_GearSame.law : Keyed Tryd.prog 3 := int_keyed Tryd.underlying3
theorem garretlaw11_GearSame.zeroI (w : World) : (zeroValue 3).run Tryd.prog w = .ok (.int .i64 0) w := by kernel_rfl
set_option maxHeartbeats 2000000 in
set_option maxRecDepth 100000 in
theorem garretlaw11_GearSame.calls (k : Nat) (a0_0 a0_1 a0_2 : Int) (a1_0 a1_1 a2 : ByteArray) (r : Bool) (w : World) (hL : Laid w) (h : garretlaw11_GearSame.f k a0_0 a0_1 a0_2 a1_0 a1_1 a2 = some r) :
    Calls Tryd.prog 3 #[.agg #[.int .i64 a0_0, .int .i64 a0_1, .int .i64 a0_2], .agg #[.string a1_0, .string a1_1], .string a2] w fun e w' => e = .returned (.bool r) ∧ Below w.heap.size w w' := by
  have HLAID := Aside0.mk hL
  clear hL
  have HB := Aside0.mk (Below.refl w.heap.size w)
  unfold garretlaw11_GearSame.f at h
  replace h := Option.bind_eq_some_iff.mp h
  obtain ⟨o, h1, h⟩ := h
  by_cases co : o = true
  · subst co
    rw [if_pos rfl] at h
    have A1 := Aside0.mk h1
    clear h1
    have hmm := @run_makeMap Tryd.prog
    by_cases c1 : (a1_0.size : Int) > 1000
    · rw [if_pos c1] at h
      obtain rfl := Option.some.inj h
      have d1 : decide (1000 < (a1_0.size : Int)) = true := decide_eq_true c1
      clear h c1
      go_enter Tryd.func3, Tryd.ntmps3
      go_wp2_with (first | ((with_reducible refine gate_dst (N := 3) rfl ?_); refine box_event ?hg (N := 3) ?hd (cs := #[.int .i64 a0_0, .int .i64 a0_1, .int .i64 a0_2]) (t := 22) ?hr ?_; (case hd => rfl); (case hg => rfl); (case hr => first | (go_simp; done) | (go_simp; rfl)); intro ga hg_ wb_ hbox hb; have n0_ := Aside0.mk (below_step HB.out hb); have n1_ := Aside0.mk hbox; have n9_ := Aside0.mk ((by rw [hg_]; exact HB.out.size : w.heap.size ≤ ga)); clear HB hb hbox hg_ ; have HB := n0_; have Bga := n1_; have GEga := n9_; clear n0_ n1_ n9_) | ((with_reducible refine gate_dst (N := 4) rfl ?_); refine box_event ?hg (N := 4) ?hd (cs := #[.string a1_0, .string a1_1]) (t := 23) ?hr ?_; (case hd => rfl); (case hg => rfl); (case hr => first | (go_simp; done) | (go_simp; rfl)); intro gp hg_ wb_ hbox hb; have n0_ := Aside0.mk (below_step HB.out hb); have n1_ := Aside0.mk hbox; have n9_ := Aside0.mk ((by rw [hg_]; exact HB.out.size : w.heap.size ≤ gp)); have k0_ := Aside0.mk (blk_below Bga.out hb); clear HB hb hbox hg_ Bga; have HB := n0_; have Bgp := n1_; have GEgp := n9_; clear n0_ n1_ n9_; have Bga := k0_; clear k0_) | (go_at_call 7; (with_reducible refine (garretlaw11_works.calls k true _ (Laid.below HLAID.out HB.out) A1.out).mono ?_); rintro e wc_ ⟨rfl, hb⟩; have n0_ := Aside0.mk (below_step HB.out hb); have k0_ := Aside0.mk (blk_below Bga.out hb); have k1_ := Aside0.mk (blk_below Bgp.out hb); clear HB hb Bga Bgp; have HB := n0_; clear n0_; have Bga := k0_; clear k0_; have Bgp := k1_; clear k1_; obtain ⟨hp0, hp1, hpf0, hpf1⟩ := blk_all2 Bgp.out; clear hpf0 hpf1))
      go_ret
      exact ⟨rfl, HB.out⟩
    rw [if_neg c1] at h
    have d1 : decide (1000 < (a1_0.size : Int)) = false := decide_eq_false c1
    by_cases c2 : (a1_1.size : Int) > 1000
    · rw [if_pos c2] at h
      obtain rfl := Option.some.inj h
      have d2 : decide (1000 < (a1_1.size : Int)) = true := decide_eq_true c2
      clear h c2
      go_enter Tryd.func3, Tryd.ntmps3
      go_wp2_with (first | ((with_reducible refine gate_dst (N := 3) rfl ?_); refine box_event ?hg (N := 3) ?hd (cs := #[.int .i64 a0_0, .int .i64 a0_1, .int .i64 a0_2]) (t := 22) ?hr ?_; (case hd => rfl); (case hg => rfl); (case hr => first | (go_simp; done) | (go_simp; rfl)); intro ga hg_ wb_ hbox hb; have n0_ := Aside0.mk (below_step HB.out hb); have n1_ := Aside0.mk hbox; have n9_ := Aside0.mk ((by rw [hg_]; exact HB.out.size : w.heap.size ≤ ga)); clear HB hb hbox hg_ ; have HB := n0_; have Bga := n1_; have GEga := n9_; clear n0_ n1_ n9_) | ((with_reducible refine gate_dst (N := 4) rfl ?_); refine box_event ?hg (N := 4) ?hd (cs := #[.string a1_0, .string a1_1]) (t := 23) ?hr ?_; (case hd => rfl); (case hg => rfl); (case hr => first | (go_simp; done) | (go_simp; rfl)); intro gp hg_ wb_ hbox hb; have n0_ := Aside0.mk (below_step HB.out hb); have n1_ := Aside0.mk hbox; have n9_ := Aside0.mk ((by rw [hg_]; exact HB.out.size : w.heap.size ≤ gp)); have k0_ := Aside0.mk (blk_below Bga.out hb); clear HB hb hbox hg_ Bga; have HB := n0_; have Bgp := n1_; have GEgp := n9_; clear n0_ n1_ n9_; have Bga := k0_; clear k0_) | (go_at_call 7; (with_reducible refine (garretlaw11_works.calls k true _ (Laid.below HLAID.out HB.out) A1.out).mono ?_); rintro e wc_ ⟨rfl, hb⟩; have n0_ := Aside0.mk (below_step HB.out hb); have k0_ := Aside0.mk (blk_below Bga.out hb); have k1_ := Aside0.mk (blk_below Bgp.out hb); clear HB hb Bga Bgp; have HB := n0_; clear n0_; have Bga := k0_; clear k0_; have Bgp := k1_; clear k1_; obtain ⟨hp0, hp1, hpf0, hpf1⟩ := blk_all2 Bgp.out; clear hpf0 hpf1))
      go_ret
      exact ⟨rfl, HB.out⟩
    rw [if_neg c2] at h
    have d2 : decide (1000 < (a1_1.size : Int)) = false := decide_eq_false c2
    by_cases c3 : (a2.size : Int) > 1000
    · rw [if_pos c3] at h
      obtain rfl := Option.some.inj h
      have d3 : decide (1000 < (a2.size : Int)) = true := decide_eq_true c3
      clear h c3
      go_enter Tryd.func3, Tryd.ntmps3
      go_wp2_with (first | ((with_reducible refine gate_dst (N := 3) rfl ?_); refine box_event ?hg (N := 3) ?hd (cs := #[.int .i64 a0_0, .int .i64 a0_1, .int .i64 a0_2]) (t := 22) ?hr ?_; (case hd => rfl); (case hg => rfl); (case hr => first | (go_simp; done) | (go_simp; rfl)); intro ga hg_ wb_ hbox hb; have n0_ := Aside0.mk (below_step HB.out hb); have n1_ := Aside0.mk hbox; have n9_ := Aside0.mk ((by rw [hg_]; exact HB.out.size : w.heap.size ≤ ga)); clear HB hb hbox hg_ ; have HB := n0_; have Bga := n1_; have GEga := n9_; clear n0_ n1_ n9_) | ((with_reducible refine gate_dst (N := 4) rfl ?_); refine box_event ?hg (N := 4) ?hd (cs := #[.string a1_0, .string a1_1]) (t := 23) ?hr ?_; (case hd => rfl); (case hg => rfl); (case hr => first | (go_simp; done) | (go_simp; rfl)); intro gp hg_ wb_ hbox hb; have n0_ := Aside0.mk (below_step HB.out hb); have n1_ := Aside0.mk hbox; have n9_ := Aside0.mk ((by rw [hg_]; exact HB.out.size : w.heap.size ≤ gp)); have k0_ := Aside0.mk (blk_below Bga.out hb); clear HB hb hbox hg_ Bga; have HB := n0_; have Bgp := n1_; have GEgp := n9_; clear n0_ n1_ n9_; have Bga := k0_; clear k0_) | (go_at_call 7; (with_reducible refine (garretlaw11_works.calls k true _ (Laid.below HLAID.out HB.out) A1.out).mono ?_); rintro e wc_ ⟨rfl, hb⟩; have n0_ := Aside0.mk (below_step HB.out hb); have k0_ := Aside0.mk (blk_below Bga.out hb); have k1_ := Aside0.mk (blk_below Bgp.out hb); clear HB hb Bga Bgp; have HB := n0_; clear n0_; have Bga := k0_; clear k0_; have Bgp := k1_; clear k1_; obtain ⟨hp0, hp1, hpf0, hpf1⟩ := blk_all2 Bgp.out; clear hpf0 hpf1))
      go_ret
      exact ⟨rfl, HB.out⟩
    rw [if_neg c3] at h
    have d3 : decide (1000 < (a2.size : Int)) = false := decide_eq_false c3
    replace h := Option.bind_eq_some_iff.mp h
    obtain ⟨⟨x0, y, x2⟩, h2, h⟩ := h
    dsimp only at h
    replace h := Option.bind_eq_some_iff.mp h
    obtain ⟨⟨la, ea⟩, h3, h⟩ := h
    replace h := Option.bind_eq_some_iff.mp h
    obtain ⟨⟨lb, eb⟩, h4, h⟩ := h
    dsimp only at h
    by_cases ce : ea = 0 ∧ eb = 0 ∧ la.length ≤ 2000
    · rw [if_pos ce] at h
      obtain ⟨rfl, rfl, hlen⟩ := ce
      have A2 := Aside0.mk h2
      have A3 := Aside0.mk h3
      have A4 := Aside0.mk h4
      have HLEN := Aside0.mk hlen
      have H := Aside0.mk h
      have C1 := Aside0.mk (show a1_0.size ≤ 1000 by omega)
      have C2 := Aside0.mk (show a1_1.size ≤ 1000 by omega)
      have C3 := Aside0.mk (show a2.size ≤ 1000 by omega)
      have z1 : a1_0.size + a2.size ≤ 140737488355328 := by omega
      have z2 : a1_1.size + a2.size ≤ 140737488355328 := by omega
      clear h2 h3 h4 hlen h c1 c2 c3
      go_enter Tryd.func3, Tryd.ntmps3
      go_upto_region 11 with (first | ((with_reducible refine gate_dst (N := 3) rfl ?_); refine box_event ?hg (N := 3) ?hd (cs := #[.int .i64 a0_0, .int .i64 a0_1, .int .i64 a0_2]) (t := 22) ?hr ?_; (case hd => rfl); (case hg => rfl); (case hr => first | (go_simp; done) | (go_simp; rfl)); intro ga hg_ wb_ hbox hb; have n0_ := Aside0.mk (below_step HB.out hb); have n1_ := Aside0.mk hbox; have n9_ := Aside0.mk ((by rw [hg_]; exact HB.out.size : w.heap.size ≤ ga)); clear HB hb hbox hg_ ; have HB := n0_; have Bga := n1_; have GEga := n9_; clear n0_ n1_ n9_) | ((with_reducible refine gate_dst (N := 4) rfl ?_); refine box_event ?hg (N := 4) ?hd (cs := #[.string a1_0, .string a1_1]) (t := 23) ?hr ?_; (case hd => rfl); (case hg => rfl); (case hr => first | (go_simp; done) | (go_simp; rfl)); intro gp hg_ wb_ hbox hb; have n0_ := Aside0.mk (below_step HB.out hb); have n1_ := Aside0.mk hbox; have n9_ := Aside0.mk ((by rw [hg_]; exact HB.out.size : w.heap.size ≤ gp)); have k0_ := Aside0.mk (blk_below Bga.out hb); clear HB hb hbox hg_ Bga; have HB := n0_; have Bgp := n1_; have GEgp := n9_; clear n0_ n1_ n9_; have Bga := k0_; clear k0_) | (go_at_call 7; (with_reducible refine (garretlaw11_works.calls k true _ (Laid.below HLAID.out HB.out) A1.out).mono ?_); rintro e wc_ ⟨rfl, hb⟩; have n0_ := Aside0.mk (below_step HB.out hb); have k0_ := Aside0.mk (blk_below Bga.out hb); have k1_ := Aside0.mk (blk_below Bgp.out hb); clear HB hb Bga Bgp; have HB := n0_; clear n0_; have Bga := k0_; clear k0_; have Bgp := k1_; clear k1_; obtain ⟨hp0, hp1, hpf0, hpf1⟩ := blk_all2 Bgp.out; clear hpf0 hpf1; obtain ⟨hq0, hq1, hq2, hqf0, hqf1, hqf2⟩ := blk_all3 Bga.out; clear hqf0 hqf1 hqf2) | (go_at_call 8; (with_reducible refine (garretlaw11_setup.calls a0_0 a0_1 a0_2 x0 y x2 _ A2.out).mono ?_); rintro e wc_ ⟨rfl, hb⟩; have n0_ := Aside0.mk (below_step HB.out hb); have k0_ := Aside0.mk (blk_below Bga.out hb); have k1_ := Aside0.mk (blk_below Bgp.out hb); clear HB hb Bga Bgp; have HB := n0_; clear n0_; have Bga := k0_; clear k0_; have Bgp := k1_; clear k1_) | ((with_reducible refine gate_dst (N := 7) rfl ?_); refine box_event ?hg (N := 7) ?hd (cs := #[.int .i64 0, .int .i64 0, .int .i64 0]) (t := 26) ?hr ?_; (case hd => rfl); (case hg => rfl); (case hr => first | (go_simp; done) | (go_simp; rfl)); intro gx hg_ wb_ hbox hb; have n0_ := Aside0.mk (below_step HB.out hb); have n1_ := Aside0.mk hbox; have n9_ := Aside0.mk ((by rw [hg_]; exact HB.out.size : w.heap.size ≤ gx)); have k0_ := Aside0.mk (blk_below Bga.out hb); have k1_ := Aside0.mk (blk_below Bgp.out hb); have e0_ := Aside0.mk (by rw [hg_]; exact Nat.ne_of_lt (blk_lt Bgp.out) : gp ≠ gx); clear HB hb hbox hg_ Bga Bgp; have HB := n0_; have Bgx := n1_; have GEgx := n9_; clear n0_ n1_ n9_; have Bga := k0_; clear k0_; have Bgp := k1_; clear k1_; have NEgpgx := e0_; clear e0_) | ((with_reducible refine gate_store (t := 26) (p := 7) rfl ?_); refine store_all rfl 26 (.tmp 7) _ rfl gx #[.int .i64 x0, .int .i64 y, .int .i64 x2] rfl rfl 26 _ Bgx.out (by kernel_rfl) rfl (by simp [Value.oneCell']) ?_; intro ws_ hrow_ hgr_ hbl_; have k1_ := Aside0.mk (blk_grown Bgp.out hgr_ (fun e_ => NEgpgx.out (Option.some.inj e_))); have q_ := Aside0.mk (hbl_ w w.heap.size GEgx.out HB.out); clear HB Bgx Bgp Bga; have HB := q_; have Bgx := Aside0.mk hrow_; have Bgp := k1_; clear q_ k1_ hrow_ hgr_ hbl_; (try simp only [Act.put, List.setIfInBounds_toArray, List.set_cons_zero, List.set_cons_succ]); obtain ⟨hx0, hx1, hx2, hxf0, hxf1, hxf2⟩ := blk_all3 Bgx.out; clear hxf0 hxf1 hxf2; obtain ⟨hp0, hp1, hpf0, hpf1⟩ := blk_all2 Bgp.out; clear hpf0 hpf1) | (go_at_call 9; (with_reducible refine (gear_Chunks.calls k x0 y x2 (a1_0 ++ a2) la 0 _ (Laid.below HLAID.out HB.out) A3.out).mono ?_); rintro e wa_ ⟨va, rfl, ho, hb⟩; obtain ⟨Aa, ca, rfl, hla, hCa⟩ := Kd.R_reads ho; have n0_ := Aside0.mk (below_step HB.out hb); have k1_ := Aside0.mk (blk_below Bgp.out hb); have k2_ := Aside0.mk (blk_below Bgx.out hb); have HCa := Aside0.mk hCa; have HLa := Aside0.mk hla; clear HB Bgp Bgx ho hb hCa hla hp0 hp1 hx0 hx1 hx2; have HB := n0_; have Bgp := k1_; have Bgx := k2_; clear n0_ k1_ k2_; obtain ⟨hx0, hx1, hx2, hxf0, hxf1, hxf2⟩ := blk_all3 Bgx.out; clear hxf0 hxf1 hxf2; obtain ⟨hp0, hp1, hpf0, hpf1⟩ := blk_all2 Bgp.out; clear hpf0 hpf1) | (go_at_call 9; (with_reducible refine (gear_Chunks.calls k x0 y x2 (a1_1 ++ a2) lb 0 _ (Laid.below HLAID.out HB.out) A4.out).mono ?_); rintro e wb_ ⟨vb, rfl, ho, hb⟩; obtain ⟨Ab, cb, rfl, hlb, hCb⟩ := Kd.R_reads ho; have n0_ := Aside0.mk (below_step HB.out hb); have k1_ := Aside0.mk (blk_below Bgp.out hb); have k3_ := Aside0.mk (Kd.C_below HCa.out hb); have HCb := Aside0.mk hCb; have HLb := Aside0.mk hlb; clear HB Bgp Bgx ho hb hCb hlb hp0 hp1 hx0 hx1 hx2 HCa; have HB := n0_; have Bgp := k1_; have HCa := k3_; clear n0_ k1_ k3_; obtain ⟨hp0, hp1, hpf0, hpf1⟩ := blk_all2 Bgp.out; clear hpf0 hpf1))
      obtain ⟨L0, hL0⟩ : ∃ L0 : Int, (a1_0.size : Int) + (a2.size : Int) = L0 := ⟨_, rfl⟩
      obtain ⟨L1, hL1⟩ : ∃ L1 : Int, (a1_1.size : Int) + (a2.size : Int) = L1 := ⟨_, rfl⟩
      have hw0 : wrap64 L0 = L0 := by have := C1.out; have := C3.out; unfold wrap64; omega
      have hw1 : wrap64 L1 = L1 := by have := C2.out; have := C3.out; unfold wrap64; omega
      have WF0 := Aside0.mk (show (Lit.int .i64 L0).wf = true by rw [← hw0]; exact wrap64_wf _)
      have WF1 := Aside0.mk (show (Lit.int .i64 L1).wf = true by rw [← hw1]; exact wrap64_wf _)
      have h := H.out
      rw [hL0, hL1, hw0, hw1] at h
      obtain ⟨E, hE⟩ : ∃ E, garretlaw11_GearSame.ents la L0 0 [(L0, 0)] = E := ⟨_, rfl⟩
      rw [hE] at h
      have HH := Aside0.mk h
      have HE := Aside0.mk hE
      have HL1 := Aside0.mk hL1
      have HW1 := Aside0.mk hw1
      clear H h hE hw0 hw1
      rw [hL0]
      clear hL0 hL1 hp0 hp1
      have OW0 : Aside0 ((wb_.alloc (.map #[] 0)).ownsMap Tryd.prog 3 (plainElem (H := Unit) Tryd.prog 3) wb_.heap.size 0 (.map [])) := ⟨World.ownsMap_made wb_ _ _ _⟩
      have BW0 : Aside0 (Below wb_.heap.size wb_ (wb_.alloc (.map #[] 0))) := ⟨below_alloc (Below.refl _ _) _⟩
      have R0 := Aside0.mk garretlaw11_GearSame.rep_nil
      go_wp2_with (first | (refine garretlaw11_GearSame.insert_own _ rfl _ _ _ 32 rfl 3 3 garretlaw11_GearSame.law Tryd.underlying32 _ wb_.heap.size 0 (.map []) rfl OW0.out (by unfold maxLen; omega) _ _ (.int .i64 L0) rfl rfl (keyOf_int_mk Tryd.underlying3 WF0.out) (.lit (.int .i64 0)) [] (plainElem_int Tryd.underlying3 (by decide)) ?_; intro wm hown hgr; have OW := Aside0.mk hown; have BW := Aside0.mk (BW0.out.grown hgr (by simp) (fun k hk => by cases hk; exact Nat.le_refl _)); clear hown hgr OW0 BW0))
      have R1 := Aside0.mk (garretlaw11_GearSame.rep_put R0.out L0 0 WF0.out)
      clear R0 hmm
      go_loopw [12, 74] (fun v12 v74 w' => ∃ (i : Nat) (left : Int) (es : List (Int × Int)) (D : DataW Unit), i ≤ la.length ∧ v74 = .int .i64 (i : Int) ∧ v12 = .int .i64 left ∧ Aside0 (garretlaw11_GearSame.ents (la.drop i) left (i : Int) es = E) ∧ Aside0 (garretlaw11_GearSame.Rep es D) ∧ Aside0 (w'.ownsMap Tryd.prog 3 (plainElem (H := Unit) Tryd.prog 3) wb_.heap.size (i + 1) D) ∧ Aside0 (Below wb_.heap.size wb_ w')) (fun _ v74 _ => la.length - (intOf v74).toNat)
      case atStart => exact ⟨0, L0, _, _, Nat.zero_le _, rfl, rfl, HE, R1, OW, BW⟩
      case round =>
        clear HE R1 OW BW
        obtain ⟨i, left, es, D, hi, rfl, rfl, HE, HR, OW, BW⟩ := hrel
        obtain ⟨n, hn⟩ : ∃ n, la.length = n := ⟨_, rfl⟩
        have HN := Aside0.mk hn
        have hlen := HLEN.out
        by_cases hlt : i < n
        · have d1 : decide ((i : Int) < (n : Int)) = true := decide_eq_true (by omega)
          have p1 : (i : Int) < (la.length : Int) := by omega
          have p0 : 0 ≤ (i : Int) := by omega
          have hl : i < la.length := by omega
          obtain ⟨ad, cs, hA, hcl, hK, hcell⟩ := Kd.C_get (Kd.C_below HCa.out BW.out) ByteArray.empty (i : Int) p0 p1
          have hk : cs = [Value.string (la.getD i ByteArray.empty)] := hK
          have hx : wr.cell? (ad.add i) = some (.string (la.getD i ByteArray.empty)) := by
            have h := hcell 0 (.string (la.getD i ByteArray.empty)) (by rw [hk]; rfl)
            simpa [Kd.string, Kd.scalar] using h
          have hdr : la.drop i = la.getD i ByteArray.empty :: la.drop (i + 1) := by
            rw [List.drop_eq_getElem_cons hl, List.getD_eq_getElem?_getD, List.getElem?_eq_getElem hl]; rfl
          generalize la.getD i ByteArray.empty = c at *
          have he := HE.out
          rw [hdr] at he
          simp only [garretlaw11_GearSame.ents] at he
          have HI1 : ∃ i1 : Nat, i1 = i + 1 := ⟨_, rfl⟩
          have WF2 := Aside0.mk (wrap64_wf (left - (c.size : Int)))
          have WF3 := Aside0.mk (wrap64_wf ((i : Int) + 1))
          have HE2 := Aside0.mk he
          have HR2 := Aside0.mk (garretlaw11_GearSame.rep_put HR.out (wrap64 (left - (c.size : Int))) (wrap64 ((i : Int) + 1)) WF2.out)
          have HIN := Aside0.mk hl
          have HMX := Aside0.mk (show i + 1 < maxLen by unfold maxLen; omega)
          subst hA
          rw [hn] at p1
          clear hl hcl hK hcell hk hdr he hlen HE HR HI1
          rw [hn]
          go_wp2_with (first | (at_mapUpdate; refine wpList_mapUpdate_own _ rfl _ _ _ 32 rfl 3 3 garretlaw11_GearSame.law Tryd.underlying32 _ wb_.heap.size (i + 1) D rfl OW.out HMX.out _ _ (.int .i64 (wrap64 (left - (c.size : Int)))) rfl rfl (keyOf_int_mk Tryd.underlying3 WF2.out) (.lit (.int .i64 (wrap64 ((i : Int) + 1)))) [] (plainElem_int Tryd.underlying3 WF3.out) ?_; intro wm2 hown hgr; have OW2 := Aside0.mk hown; have BW2 := Aside0.mk (BW.out.grown hgr BW.out.size (fun k hk => by cases hk; exact Nat.le_refl _)); clear hown hgr OW BW))
          have Q1 : wrap64 ((i : Int) + 1) = ((i + 1 : Nat) : Int) := by
            have := HIN.out
            have := HLEN.out
            clear d1 p1 p0 z1 z2 WF2 WF3
            unfold wrap64
            omega
          have HE3 := HE2.out
          have HR3 := HR2.out
          have OW3 := OW2.out
          clear HE2 HR2 OW2
          rw [Q1] at HE3 HR3 OW3 ⊢
          refine ⟨⟨i + 1, _, _, _, (by have := HIN.out; omega), rfl, rfl, ⟨HE3⟩, ⟨HR3⟩, ⟨OW3⟩, BW2⟩, ?_⟩
          have := HIN.out
          clear d1 p1 p0 z1 z2 WF2 WF3 Q1
          simp only [intOf]
          omega
        · obtain rfl : i = n := by omega
          have d1 : decide ((i : Int) < (i : Int)) = false := decide_eq_false (by omega)
          rw [hn]
          have he := HE.out
          rw [List.drop_eq_nil_of_le (by omega)] at he
          simp only [garretlaw11_GearSame.ents] at he
          subst he
          have HR1 := HR
          have OW1 := OW
          have BW1 := BW
          clear HR OW BW HE hlt hlen hn hi
          have Bg2 := Aside0.mk (blk_below Bgp.out BW1.out)
          obtain ⟨hp0, hp1, hpf0, hpf1⟩ := blk_all2 Bg2.out
          clear hpf0 hpf1
          by_cases cz : L1 = 0
          · have dz : ((a1_1.size : Int) + (a2.size : Int) == 0) = true := by rw [HL1.out, cz]; rfl
            have hh := HH.out
            rw [if_pos cz] at hh
            by_cases cb : lb.length = 0
            · rw [if_pos cb] at hh
              obtain rfl := Option.some.inj hh
              have HCB := Aside0.mk cb
              clear hh
              go_wp2_with fail
              go_ret
              exact ⟨by rw [HCB.out]; rfl, below_step HB.out BW1.out⟩
            · rw [if_neg cb] at hh
              cases hh
          · have dz : ((a1_1.size : Int) + (a2.size : Int) == 0) = false := beq_eq_false_iff_ne.mpr (by rw [HL1.out]; exact cz)
            have hh := HH.out
            rw [if_neg cz] at hh
            have HH2 := Aside0.mk hh
            clear hh HH
            have HWR : Aside0 (wr = wr) := ⟨rfl⟩
            go_wp2_with fail
            rw [HL1.out]
            go_loopw [12, 101] (fun v12 v101 w' => ∃ (i2 : Nat) (left : Int), i2 ≤ lb.length ∧ v101 = .int .i64 (i2 : Int) ∧ v12 = .int .i64 left ∧ Aside0 (garretlaw11_GearSame.loop k la lb (a2.size : Int) es (lb.drop i2) left i2 = some r) ∧ Aside0 (w' = wr)) (fun _ v101 _ => lb.length - (intOf v101).toNat)
            case atStart => exact ⟨0, L1, Nat.zero_le _, rfl, rfl, HH2, ⟨rfl⟩⟩
            case round =>
              clear HH2 HWR
              obtain ⟨i2, left, hi2, rfl, rfl, HE2, HW2⟩ := hrel
              have hw2 := HW2.out
              subst hw2
              clear HW2
              have HLB := Aside0.mk (show lb.length ≤ 9223372036854775807 from HCb.out.2.1)
              obtain ⟨n, hn⟩ : ∃ n, lb.length = n := ⟨_, rfl⟩
              have HNB := Aside0.mk hn
              by_cases hlt : i2 < n
              · have d1 : decide ((i2 : Int) < (n : Int)) = true := decide_eq_true (by omega)
                have p1 : (i2 : Int) < (lb.length : Int) := by omega
                have p0 : 0 ≤ (i2 : Int) := by omega
                have hl : i2 < lb.length := by omega
                obtain ⟨ad, cs, hA, hcl, hK, hcell⟩ := Kd.C_get (Kd.C_below HCb.out BW1.out) ByteArray.empty (i2 : Int) p0 p1
                have hk : cs = [Value.string (lb.getD i2 ByteArray.empty)] := hK
                have hx : wr.cell? (ad.add i2) = some (.string (lb.getD i2 ByteArray.empty)) := by
                  have h := hcell 0 (.string (lb.getD i2 ByteArray.empty)) (by rw [hk]; rfl)
                  simpa [Kd.string, Kd.scalar] using h
                have hdr : lb.drop i2 = lb.getD i2 ByteArray.empty :: lb.drop (i2 + 1) := by
                  rw [List.drop_eq_getElem_cons hl, List.getD_eq_getElem?_getD, List.getElem?_eq_getElem hl]; rfl
                generalize lb.getD i2 ByteArray.empty = c at *
                have he := HE2.out
                rw [hdr] at he
                simp only [garretlaw11_GearSame.loop] at he
                have WF2 := Aside0.mk (wrap64_wf (left - (c.size : Int)))
                have hr := HR1.out.2 (wrap64 (left - (c.size : Int))) WF2.out
                have HIN := Aside0.mk hl
                subst hA
                rw [hn] at p1
                clear hl hcl hK hcell hk hdr HE2
                cases hlook : garretlaw11_GearSame.look es (wrap64 (left - (c.size : Int))) with
                | none =>
                  rw [hlook] at hr he
                  dsimp only at he
                  have HHAS := Aside0.mk (show Maps.has D (.int .i64 (wrap64 (left - (c.size : Int)))) = false from hr.1)
                  have HE3 := Aside0.mk he
                  clear hr he hlook
                  rw [hn]
                  go_wp2_with (first | (at_lookup; refine wpList_lookup_own_ok_int _ rfl _ _ 32 rfl 3 3 .i64 garretlaw11_GearSame.law Tryd.underlying32 Tryd.underlying3 (garretlaw11_GearSame.zeroI _) wb_.heap.size (i + 1) D rfl OW1.out _ (.int .i64 (wrap64 (left - (c.size : Int)))) rfl (keyOf_int_mk Tryd.underlying3 WF2.out) ?_; intro cv hat hwc; rw [HHAS.out]; clear hat hwc))
                  have Q1 : wrap64 ((i2 : Int) + 1) = ((i2 + 1 : Nat) : Int) := by
                    have := HIN.out
                    have := HLB.out
                    clear d1 p1 p0 z1 z2 WF2 dz
                    unfold wrap64
                    omega
                  rw [Q1]
                  refine ⟨⟨i2 + 1, _, (by have := HIN.out; omega), rfl, rfl, HE3, ⟨trivial⟩⟩, ?_⟩
                  have := HIN.out
                  clear d1 p1 p0 z1 z2 WF2 dz Q1
                  simp only [intOf]
                  omega
                | some v =>
                  rw [hlook] at hr he
                  dsimp only at he
                  have HHAS := Aside0.mk (show Maps.has D (.int .i64 (wrap64 (left - (c.size : Int)))) = true from hr.1)
                  have HV := Aside0.mk (hr.2 v rfl)
                  by_cases cle : wrap64 (left - (c.size : Int)) ≤ (a2.size : Int)
                  · rw [if_pos cle] at he
                    have d2' : decide (wrap64 (left - (c.size : Int)) ≤ (a2.size : Int)) = true := decide_eq_true cle
                    by_cases cv : 0 ≤ v ∧ v ≤ (la.length : Int)
                    · rw [if_pos cv] at he
                      obtain ⟨vn, rfl⟩ : ∃ vn : Nat, v = (vn : Int) := ⟨v.toNat, by omega⟩
                      simp only [Int.toNat_natCast] at he
                      have hvn : vn ≤ la.length := by omega
                      have HVN := Aside0.mk hvn
                      have HS := Aside0.mk he
                      clear hr he hlook cle cv hvn
                      rw [hn]
                      go_upto_region 27 with (first | (at_lookup; refine wpList_lookup_own_ok_int _ rfl _ _ 32 rfl 3 3 .i64 garretlaw11_GearSame.law Tryd.underlying32 Tryd.underlying3 (garretlaw11_GearSame.zeroI _) wb_.heap.size (i + 1) D rfl OW1.out _ (.int .i64 (wrap64 (left - (c.size : Int)))) rfl (keyOf_int_mk Tryd.underlying3 WF2.out) ?_; intro cv hat hwc; rw [HHAS.out]; (have e0_ := hat.symm.trans HV.out); (obtain rfl : cv = _ := by injection e0_ with e1_; injection e1_); clear hat hwc e0_))
                      have HCA := Kd.C_below HCa.out BW1.out
                      have hlai := HN.out
                      have HDA := Kd.C_drop (k := Kd.string) (m := vn) (c := ca) HCA HVN.out HLa.out
                      have HCAP := Aside0.mk (show (la.drop vn).length ≤ ca - vn by rw [List.length_drop]; have := HLa.out; omega)
                      have hsA := garretlaw11_GearSame.cut_at Aa i ca vn (by have := HVN.out; omega)
                      rw [show i - vn = (la.drop vn).length by rw [List.length_drop, hlai]] at hsA
                      obtain ⟨A1, hA1⟩ : ∃ A1, (if ca = vn then Aa else Aa.map (·.add (vn * 1))) = A1 := ⟨_, rfl⟩
                      rw [hA1] at hsA
                      replace HDA : Kd.C Kd.string wr A1 (la.drop vn).length (la.drop vn) := by rw [← hA1]; exact HDA
                      obtain ⟨c1, hc1⟩ : ∃ c1, ca - vn = c1 := ⟨_, rfl⟩
                      have HCB := Kd.C_below HCb.out BW1.out
                      have hin := HIN.out
                      have hnb := HNB.out
                      have HDB := Kd.C_drop (k := Kd.string) (m := i2 + 1) (c := cb) HCB hin HLb.out
                      have HCBP := Aside0.mk (show (lb.drop (i2 + 1)).length ≤ cb - (i2 + 1) by rw [List.length_drop]; have := HLb.out; omega)
                      have hsB := garretlaw11_GearSame.cut_at (some ad) n cb (i2 + 1) (by omega)
                      rw [show n - (i2 + 1) = (lb.drop (i2 + 1)).length by rw [List.length_drop, hnb]] at hsB
                      obtain ⟨A2', hA2⟩ : ∃ A2', (if cb = i2 + 1 then some ad else (some ad).map (·.add ((i2 + 1) * 1))) = A2' := ⟨_, rfl⟩
                      rw [hA2] at hsB
                      replace HDB : Kd.C Kd.string wr A2' (lb.drop (i2 + 1)).length (lb.drop (i2 + 1)) := by rw [← hA2]; exact HDB
                      obtain ⟨c2, hc2⟩ : ∃ c2, cb - (i2 + 1) = c2 := ⟨_, rfl⟩
                      have hw27 : IntKind.i64.wrap ((i2 : Int) + 1) = ((i2 + 1 : Nat) : Int) := by
                        have := HLB.out
                        rw [IntWalk.i64_in _ (by omega)]; rfl
                      obtain ⟨j, hj⟩ : ∃ j, i2 + 1 = j := ⟨_, rfl⟩
                      have hs := HS.out
                      rw [hj] at hw27 hsB HDB HCBP hs
                      rw [hc1] at hsA HCAP
                      rw [hj] at hc2
                      rw [hc2] at hsB HCBP
                      obtain ⟨la', hla'⟩ : ∃ la', la.drop vn = la' := ⟨_, rfl⟩
                      obtain ⟨lb', hlb'⟩ : ∃ lb', lb.drop j = lb' := ⟨_, rfl⟩
                      rw [hla'] at hsA HDA HCAP hs
                      rw [hlb'] at hsB HDB HCBP hs
                      have HDA' := Aside0.mk HDA
                      have HDB' := Aside0.mk HDB
                      have HS' := Aside0.mk hs
                      clear HDA HDB hs HCA HCB hA1 hA2 hc1 hc2 hla' hlb' hj hlai hnb hin p1 p0 d1 d2' HS
                      go_quiet ((go_at_call 10; exact Calls.quiet_of ((garretbook_SameTexts.calls k A1 c1 la' A2' c2 lb' r _ (Kd.C_drewN HDA'.out _) HCAP.out (Kd.C_drewN HDB'.out _) HCBP.out HS'.out).mono fun e w' ⟨he, hd⟩ => ⟨he, hd.out⟩)))
                      go_wp2
                      go_ret
                      exact ⟨rfl, pw_below_drewN (below_step HB.out BW1.out) _⟩
                    · rw [if_neg cv] at he
                      cases he
                  · rw [if_neg cle] at he
                    have d2' : decide (wrap64 (left - (c.size : Int)) ≤ (a2.size : Int)) = false := decide_eq_false cle
                    have HE3 := Aside0.mk he
                    clear hr he hlook cle
                    rw [hn]
                    go_wp2_with (first | (at_lookup; refine wpList_lookup_own_ok_int _ rfl _ _ 32 rfl 3 3 .i64 garretlaw11_GearSame.law Tryd.underlying32 Tryd.underlying3 (garretlaw11_GearSame.zeroI _) wb_.heap.size (i + 1) D rfl OW1.out _ (.int .i64 (wrap64 (left - (c.size : Int)))) rfl (keyOf_int_mk Tryd.underlying3 WF2.out) ?_; intro cv hat hwc; rw [HHAS.out]; (have e0_ := hat.symm.trans HV.out); (obtain rfl : cv = _ := by injection e0_ with e1_; injection e1_); clear hat hwc e0_))
                    have Q1 : wrap64 ((i2 : Int) + 1) = ((i2 + 1 : Nat) : Int) := by
                      have := HIN.out
                      have := HLB.out
                      clear d1 p1 p0 z1 z2 WF2 dz
                      unfold wrap64
                      omega
                    rw [Q1]
                    refine ⟨⟨i2 + 1, _, (by have := HIN.out; omega), rfl, rfl, HE3, ⟨trivial⟩⟩, ?_⟩
                    have := HIN.out
                    clear d1 p1 p0 z1 z2 WF2 dz Q1
                    simp only [intOf]
                    omega
              · obtain rfl : i2 = n := by omega
                have he := HE2.out
                rw [List.drop_eq_nil_of_le (by omega)] at he
                simp only [garretlaw11_GearSame.loop] at he
                cases he
    · rw [if_neg ce] at h
      cases h
  · rw [if_neg co] at h
    cases h
end

def garretlaw11_GearSame.Pure : Prop := ∀ (a0_0 : Int) (a0_1 : Int) (a0_2 : Int) (a1_0 : ByteArray) (a1_1 : ByteArray) (a2 : ByteArray), ((Lit.int .i64 a0_0).wf = true) → ((Lit.int .i64 a0_1).wf = true) → ((Lit.int .i64 a0_2).wf = true) → (a1_0.size ≤ 140737488351232) → (a1_1.size ≤ 140737488351232) → (a2.size ≤ 140737488351232) → ∃ k, garretlaw11_GearSame.f k a0_0 a0_1 a0_2 a1_0 a1_1 a2 = some true
theorem garretlaw11_GearSame.walk (P : garretlaw11_GearSame.Pure) (a0_0 : Int) (a0_1 : Int) (a0_2 : Int) (a1_0 : ByteArray) (a1_1 : ByteArray) (a2 : ByteArray) (w : World) (hL : Laid w) (o0 : ((Lit.int .i64 a0_0).wf = true)) (o1 : ((Lit.int .i64 a0_1).wf = true)) (o2 : ((Lit.int .i64 a0_2).wf = true)) (o3 : (a1_0.size ≤ 140737488351232)) (o4 : (a1_1.size ≤ 140737488351232)) (o5 : (a2.size ≤ 140737488351232)) :
    Calls Tryd.prog 3 #[.agg #[.int .i64 a0_0, .int .i64 a0_1, .int .i64 a0_2], .agg #[.string a1_0, .string a1_1], .string a2] w fun e w' => e = .returned (.bool true) ∧ Below w.heap.size w w' := by
  obtain ⟨k, h⟩ := P a0_0 a0_1 a0_2 a1_0 a1_1 a2 o0 o1 o2 o3 o4 o5
  refine (garretlaw11_GearSame.calls k a0_0 a0_1 a0_2 a1_0 a1_1 a2 true w hL h).mono ?_
  rintro e w' ⟨rfl, hd⟩
  exact ⟨rfl, hd⟩
end Go.Proofs.YtfhipccjnmfefaaDoor.QGear
