-- Written for this claim by a program of this session.
import Derived.Test.YtnlphphaajkjpaaYOpens
import Derived.Test.YtnlphphaajkjpaaYUpto
import Derived.Test.YtnlphphaajkjpaaRows
import Derived.Test.YtnlphphaajkjpaaQTreBx8
import Derived.Test.YtnlphphaajkjpaaPureTreeBack
import Derived.WalkKit
import Derived.ProofKit
import Derived.OpenShut
import Derived.ShutString
import Derived.ChangeOld
import Derived.Below
import Derived.SizedLaws
import Derived.Test.YtnlphphaajkjpaaWSized
namespace Go.Proofs.Ytnlphphaajkjpaa.treeBack
open Go.ChangeShapes Go.WideShapes Go.ChangeAt Go.RowKit
open Go.ChangeMaps (open_string shut_string)
open Go.Proofs.YtnlphphaajkjpaaW.PrintWords Go.Proofs.Ytnlphphaajkjpaa.QTreB
set_option linter.unusedVariables false
set_option linter.unusedSimpArgs false
theorem own : ownKnob Try.prog.godebug = none := by kernel_rfl
theorem laidOut : laidOutB Try.prog = true := by kernel_rfl
def IsRow (k : IntKind) (w : World) (a : Option Addr) (len cap : Nat) (zs : List Int) : Prop :=
  (a = none ∧ len = 0 ∧ cap = 0 ∧ zs = []) ∨
  ∃ x, a = some x ∧ len ≤ cap ∧ cap ≤ maxLen ∧ zs.length = cap ∧ (∀ i, i < zs.length → w.cell? (x.add i) = some (.int k (zs.getD i 0))) ∧ ∀ n ∈ zs, (Lit.int k n).wf = true
set_option maxRecDepth 100000 in
theorem lifted (os : Os) (started : os.Started) (H : Type) (enc : TypeId × Value → H) (F : Stop.Interp) :
    ReturnsInHanded {} Try.checked os 6 .any ((Rows.OpenSpec.upto Rows.treeBackSpec).pre6 enc Try.prog Try.f6 Rows.treeBackUptoRow.domain false) (((Rows.OpenSpec.upto Rows.treeBackSpec).at F).post enc Try.prog Try.f6 false true false false) := by
  refine returnsInHanded_of_cond_sized (C := Try.checked) (s := Rows.OpenSpec.upto Rows.treeBackSpec) (k := Rows.uptoSmall) rfl own started (by kernel_rfl) Try.func6
    (witness_of_any (enc := enc) (C := Try.checked) (s := Rows.OpenSpec.upto Rows.treeBackSpec) (k := Rows.uptoSmall) rfl false ⟨#[], #[.slice none 0 0, .string ByteArray.empty, .int .i64 0], []⟩ 8 (by kernel_rfl) (by kernel_rfl) (by kernel_rfl) (by kernel_rfl) (by kernel_rfl)) ?_
  intro W base args ds gs before hval0 hW0 hcnd hsz0
  have hsz : (DataW.weightsEach Try.prog (Try.f6.params.toList ++ Rows.treeBackSpec.plain.varTypes Try.prog) (ds ++ gs)).all (· ≤ reachBytes) = true := hsz0
  have hval : ∀ (j : Nat) t v, Try.f6.params[j]? = some t → args[j]? = some v → Value.okWide Try.prog W .any base t v := hval0
  have hW : DataW.Whole enc Try.prog Try.f6.params.toList Rows.treeBackSpec.vars false W args.toList ds gs before := hW0
  have hW' := hW
  obtain ⟨p, q, hA0, hV, rfl, hfz, hnd⟩ := hW
  have hA : DataW.TrodAll enc Try.prog W 0 (fun _ => true) true Try.f6.params.toList args.toList ds p := hA0
  rw [Try.params6] at hA hval hsz
  obtain ⟨v0, vs0, d0, ds0, p0, q0, hargs, rfl, rfl, h0, r0⟩ := trodAll_cons hA
  obtain ⟨v1, vs1, d1, ds1, p1, q1, rfl, rfl, rfl, h1, r1⟩ := trodAll_cons r0
  obtain ⟨v2, vs2, d2, ds2, p2, q2, rfl, rfl, rfl, h2, r2⟩ := trodAll_cons r1
  obtain ⟨rfl, rfl, rfl⟩ := trodAll_nil r2
  obtain rfl : args = #[v0, v1, v2] := by cases args; simp_all
  obtain ⟨rfl, rfl⟩ := trodVars_none hV
  have k0 := h0
  have lt0 : ∀ x ∈ p0, x.block < W.heap.size := by obtain ⟨m, hm⟩ := k0; exact DataW.trod_lt m _ _ _ hm
  obtain ⟨x0, K0, o0, b0⟩ := open_argU (opensU_slice (d := k24) (B := 112) Try.underlying39 (by kernel_rfl) (by kernel_rfl) (opensU_struct (fun x : S24 => (x.f0, x.f1, x.f2, x.f3, x.f4, x.f5, x.f6, x.f7, x.f8)) (fun p => (⟨p.1, p.2.1, p.2.2.1, p.2.2.2.1, p.2.2.2.2.1, p.2.2.2.2.2.1, p.2.2.2.2.2.2.1, p.2.2.2.2.2.2.2.1, p.2.2.2.2.2.2.2.2⟩ : S24)) (fun _ => rfl) Try.underlying24 (by kernel_rfl) (by kernel_rfl) (opensFU_cons (by kernel_rfl) (opensU_string Try.underlying9) (opensFU_cons (by kernel_rfl) (opensU_int Try.underlying3) (opensFU_cons (by kernel_rfl) (opensU_int Try.underlying3) (opensFU_cons (by kernel_rfl) (opensU_int Try.underlying3) (opensFU_cons (by kernel_rfl) (opensU_int Try.underlying3) (opensFU_cons (by kernel_rfl) (opensU_int Try.underlying3) (opensFU_cons (by kernel_rfl) (opensU_slice (d := Kd.string) (B := 16) Try.underlying22 (by kernel_rfl) (by kernel_rfl) (opensU_string Try.underlying9)) (opensFU_cons (by kernel_rfl) (opensU_string Try.underlying9) (opensFU_one (by kernel_rfl) (opensU_string Try.underlying9)))))))))))) h0 hsz (j := 0) rfl rfl
  obtain ⟨a0, len0, cap0, rfl⟩ := okWide_slice Try.underlying39 (hval 0 39 v0 rfl rfl)
  obtain ⟨A0, c0, e0, hc0, hr0⟩ := K0
  simp only [Value.cells, List.cons.injEq, Value.slice.injEq, and_true] at e0
  obtain ⟨rfl, rfl, rfl⟩ := e0
  obtain ⟨a1, rfl, rfl, rfl, y1⟩ := open_string Try.underlying9 (hval 1 9 v1 rfl rfl) h1
  have w1 : a1.size ≤ 140737488351232 := by
    have z := sized_string hsz (j := 1) (t := 9) rfl rfl
    rw [Array.length_toList] at z
    exact z
  obtain ⟨a2, rfl, rfl, rfl, w2⟩ := open_int Try.underlying3 (hval 2 3 v2 rfl rfl) h2
  have zB : ((x0.map fun x0y => (((x0y.f0.size + 1) + (1 + (1 + (1 + (1 + (1 + (((x0y.f6.map fun x0y_f6y => (x0y_f6y.size + 1)).sum + 1) + ((x0y.f7.size + 1) + (x0y.f8.size + 1))))))))) + 1)).sum + 1) + (a1.size + 1) ≤ 1048576 := by
    have z := hcnd
    have c0 : ((x0.map fun x0y => (((x0y.f0.size + 1) + (1 + (1 + (1 + (1 + (1 + (((x0y.f6.map fun x0y_f6y => (x0y_f6y.size + 1)).sum + 1) + ((x0y.f7.size + 1) + (x0y.f8.size + 1))))))))) + 1)).sum + 1) ≤ Rows.uptoBulk d0 := b0
    replace z := of_decide_eq_true (show decide (Rows.uptoBulkAll _ ≤ 1048576) = true from z)
    simp only [List.append_nil, List.cons_append, List.nil_append, Rows.uptoBulkAll, Rows.uptoBulk] at z
    have z1 : a1.size = a1.data.toList.length := by simp
    omega
  clear hA0 hval0 hsz0 hsz
  refine (QTreB.garretlaw19_TreeBack.walk Pure.TreeBack a0 cap0 x0 a1 a2 W hr0 hc0 o0 w1 w2 zB).mono fun e W' ⟨he, bel⟩ => ?_
  subst he
  exact ⟨_, rfl, _, _, _, [], _, [], hW', trodAll_mk1 (shut_bool Try.underlying4 _), (trodAll_cons_mk (Below.trod laidOut (by kernel_rfl) (of_decide_eq_true (by kernel_rfl)) k0 bel lt0) (trodAll_cons_mk (shut_string Try.underlying9 y1) (trodAll_cons_mk (shut_int Try.underlying3 w2) trodAll_mk0))), rfl, bel.frame _, fun h => by cases h⟩
theorem over : Rows.treeBackUptoRow.holds Try.pinned (Rows.OpenSpec.upto Rows.treeBackSpec) :=
  OpenClaim.holds_of_cond 6 Try.f6 rfl rfl rfl rfl rfl rfl rfl ⟨rfl, rfl, rfl, rfl, rfl⟩ rfl rfl rfl rfl rfl (by kernel_rfl) Try.func6 (by kernel_rfl)
    (of_decide_eq_true (by kernel_rfl)) (by unfold Func.isWrapper; first | (rw [if_pos (by decide +kernel)]; kernel_rfl) | (rw [if_neg (by decide +kernel)]; exact ⟨rfl, rfl⟩))
    (fun os started H enc _ F => lifted os started H enc F)
theorem proved : Rows.TreeBackUptoSaid := over
#print axioms proved
end Go.Proofs.Ytnlphphaajkjpaa.treeBack
namespace Go.Proofs.Ytnlphphaajkjpaa
/-- The row, under a short name, for the claim. -/
theorem treeBack_holds : Rows.TreeBackUptoSaid := treeBack.proved
end Go.Proofs.Ytnlphphaajkjpaa
