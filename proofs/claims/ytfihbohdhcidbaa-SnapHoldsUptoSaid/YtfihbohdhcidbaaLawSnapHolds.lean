-- Written for this claim by a program of this session.
import Derived.Test.YtfihbohdhcidbaaYOpens
import Derived.Test.YtfihbohdhcidbaaYUpto
import Derived.Test.YtfihbohdhcidbaaRows
import Derived.Test.YtfihbohdhcidbaaQSnpAx3
import Derived.Test.YtfihbohdhcidbaaPureSnapHolds
import Derived.WalkKit
import Derived.ProofKit
import Derived.OpenShut
import Derived.ShutString
import Derived.ChangeOld
import Derived.Below
import Derived.SizedLaws
import Derived.Test.YtfihbohdhcidbaaWSized
namespace Go.Proofs.Ytfihbohdhcidbaa.snapHolds
open Go.ChangeShapes Go.WideShapes Go.ChangeAt Go.RowKit
open Go.ChangeMaps (open_string shut_string)
open Go.Proofs.YtfihbohdhcidbaaW.PrintWords Go.Proofs.Ytfihbohdhcidbaa.QSnpA
set_option linter.unusedVariables false
set_option linter.unusedSimpArgs false
theorem own : ownKnob Try.prog.godebug = none := by kernel_rfl
theorem laidOut : laidOutB Try.prog = true := by kernel_rfl
def IsRow (k : IntKind) (w : World) (a : Option Addr) (len cap : Nat) (zs : List Int) : Prop :=
  (a = none ∧ len = 0 ∧ cap = 0 ∧ zs = []) ∨
  ∃ x, a = some x ∧ len ≤ cap ∧ cap ≤ maxLen ∧ zs.length = cap ∧ (∀ i, i < zs.length → w.cell? (x.add i) = some (.int k (zs.getD i 0))) ∧ ∀ n ∈ zs, (Lit.int k n).wf = true
set_option maxRecDepth 100000 in
theorem lifted (os : Os) (started : os.Started) (H : Type) (enc : TypeId × Value → H) (F : Stop.Interp) :
    ReturnsInHanded {} Try.checked os 3 .any ((Rows.OpenSpec.upto Rows.snapHoldsSpec).pre6 enc Try.prog Try.f3 Rows.snapHoldsUptoRow.domain false) (((Rows.OpenSpec.upto Rows.snapHoldsSpec).at F).post enc Try.prog Try.f3 false true false false) := by
  refine returnsInHanded_of_cond_sized (C := Try.checked) (s := Rows.OpenSpec.upto Rows.snapHoldsSpec) (k := Rows.uptoSmall) rfl own started (by kernel_rfl) Try.func3
    (witness_of_any (enc := enc) (C := Try.checked) (s := Rows.OpenSpec.upto Rows.snapHoldsSpec) (k := Rows.uptoSmall) rfl false ⟨#[], #[.agg #[.int .i64 0, .string ByteArray.empty, .slice none 0 0, .slice none 0 0, .string ByteArray.empty, .string ByteArray.empty], .agg #[.int .i64 0, .string ByteArray.empty, .slice none 0 0, .slice none 0 0, .string ByteArray.empty, .string ByteArray.empty]], []⟩ 8 (by kernel_rfl) (by kernel_rfl) (by kernel_rfl) (by kernel_rfl) (by kernel_rfl)) ?_
  intro W base args ds gs before hval0 hW0 hcnd hsz0
  have hsz : (DataW.weightsEach Try.prog (Try.f3.params.toList ++ Rows.snapHoldsSpec.plain.varTypes Try.prog) (ds ++ gs)).all (· ≤ reachBytes) = true := hsz0
  have hval : ∀ (j : Nat) t v, Try.f3.params[j]? = some t → args[j]? = some v → Value.okWide Try.prog W .any base t v := hval0
  have hW : DataW.Whole enc Try.prog Try.f3.params.toList Rows.snapHoldsSpec.vars false W args.toList ds gs before := hW0
  have hW' := hW
  obtain ⟨p, q, hA0, hV, rfl, hfz, hnd⟩ := hW
  have hA : DataW.TrodAll enc Try.prog W 0 (fun _ => true) true Try.f3.params.toList args.toList ds p := hA0
  rw [Try.params3] at hA hval hsz
  obtain ⟨v0, vs0, d0, ds0, p0, q0, hargs, rfl, rfl, h0, r0⟩ := trodAll_cons hA
  obtain ⟨v1, vs1, d1, ds1, p1, q1, rfl, rfl, rfl, h1, r1⟩ := trodAll_cons r0
  obtain ⟨rfl, rfl, rfl⟩ := trodAll_nil r1
  obtain rfl : args = #[v0, v1] := by cases args; simp_all
  obtain ⟨rfl, rfl⟩ := trodVars_none hV
  have k0 := h0
  have lt0 : ∀ x ∈ p0, x.block < W.heap.size := by obtain ⟨m, hm⟩ := k0; exact DataW.trod_lt m _ _ _ hm
  obtain ⟨x0, K0, o0, b0⟩ := open_argU (opensU_struct (fun x : S24 => (x.f0, x.f1, x.f2, x.f3, x.f4, x.f5)) (fun p => (⟨p.1, p.2.1, p.2.2.1, p.2.2.2.1, p.2.2.2.2.1, p.2.2.2.2.2⟩ : S24)) (fun _ => rfl) Try.underlying24 (by kernel_rfl) (by kernel_rfl) (opensFU_cons (by kernel_rfl) (opensU_int Try.underlying3) (opensFU_cons (by kernel_rfl) (opensU_string Try.underlying9) (opensFU_cons (by kernel_rfl) (opensU_slice (d := Kd.string) (B := 16) Try.underlying22 (by kernel_rfl) (by kernel_rfl) (opensU_string Try.underlying9)) (opensFU_cons (by kernel_rfl) (opensU_slice (d := Kd.string) (B := 16) Try.underlying22 (by kernel_rfl) (by kernel_rfl) (opensU_string Try.underlying9)) (opensFU_cons (by kernel_rfl) (opensU_string Try.underlying9) (opensFU_one (by kernel_rfl) (opensU_string Try.underlying9)))))))) h0 hsz (j := 0) rfl rfl
  obtain ⟨cs0, rfl, _⟩ := okWide_struct Try.underlying24 (hval 0 24 v0 rfl rfl)
  obtain ⟨A0_2, c0_2, A0_3, c0_3, e0, hc0_2, hr0_2, hc0_3, hr0_3⟩ := k24_open K0
  simp only [Value.cells] at e0
  obtain rfl : cs0 = #[.int .i64 x0.f0, .string x0.f1, .slice A0_2 x0.f2.length c0_2, .slice A0_3 x0.f3.length c0_3, .string x0.f4, .string x0.f5] := by cases cs0; simpa using e0
  have k1 := h1
  have lt1 : ∀ x ∈ p1, x.block < W.heap.size := by obtain ⟨m, hm⟩ := k1; exact DataW.trod_lt m _ _ _ hm
  obtain ⟨x1, K1, o1, b1⟩ := open_argU (opensU_struct (fun x : S24 => (x.f0, x.f1, x.f2, x.f3, x.f4, x.f5)) (fun p => (⟨p.1, p.2.1, p.2.2.1, p.2.2.2.1, p.2.2.2.2.1, p.2.2.2.2.2⟩ : S24)) (fun _ => rfl) Try.underlying24 (by kernel_rfl) (by kernel_rfl) (opensFU_cons (by kernel_rfl) (opensU_int Try.underlying3) (opensFU_cons (by kernel_rfl) (opensU_string Try.underlying9) (opensFU_cons (by kernel_rfl) (opensU_slice (d := Kd.string) (B := 16) Try.underlying22 (by kernel_rfl) (by kernel_rfl) (opensU_string Try.underlying9)) (opensFU_cons (by kernel_rfl) (opensU_slice (d := Kd.string) (B := 16) Try.underlying22 (by kernel_rfl) (by kernel_rfl) (opensU_string Try.underlying9)) (opensFU_cons (by kernel_rfl) (opensU_string Try.underlying9) (opensFU_one (by kernel_rfl) (opensU_string Try.underlying9)))))))) h1 hsz (j := 1) rfl rfl
  obtain ⟨cs1, rfl, _⟩ := okWide_struct Try.underlying24 (hval 1 24 v1 rfl rfl)
  obtain ⟨A1_2, c1_2, A1_3, c1_3, e1, hc1_2, hr1_2, hc1_3, hr1_3⟩ := k24_open K1
  simp only [Value.cells] at e1
  obtain rfl : cs1 = #[.int .i64 x1.f0, .string x1.f1, .slice A1_2 x1.f2.length c1_2, .slice A1_3 x1.f3.length c1_3, .string x1.f4, .string x1.f5] := by cases cs1; simpa using e1
  have zB : ((1 + ((x0.f1.size + 1) + (((x0.f2.map fun x0_f2y => (x0_f2y.size + 1)).sum + 1) + (((x0.f3.map fun x0_f3y => (x0_f3y.size + 1)).sum + 1) + ((x0.f4.size + 1) + (x0.f5.size + 1)))))) + 1) + ((1 + ((x1.f1.size + 1) + (((x1.f2.map fun x1_f2y => (x1_f2y.size + 1)).sum + 1) + (((x1.f3.map fun x1_f3y => (x1_f3y.size + 1)).sum + 1) + ((x1.f4.size + 1) + (x1.f5.size + 1)))))) + 1) ≤ 1048576 := by
    have z := hcnd
    have c0 : ((1 + ((x0.f1.size + 1) + (((x0.f2.map fun x0_f2y => (x0_f2y.size + 1)).sum + 1) + (((x0.f3.map fun x0_f3y => (x0_f3y.size + 1)).sum + 1) + ((x0.f4.size + 1) + (x0.f5.size + 1)))))) + 1) ≤ Rows.uptoBulk d0 := b0
    have c1 : ((1 + ((x1.f1.size + 1) + (((x1.f2.map fun x1_f2y => (x1_f2y.size + 1)).sum + 1) + (((x1.f3.map fun x1_f3y => (x1_f3y.size + 1)).sum + 1) + ((x1.f4.size + 1) + (x1.f5.size + 1)))))) + 1) ≤ Rows.uptoBulk d1 := b1
    replace z := of_decide_eq_true (show decide (Rows.uptoBulkAll _ ≤ 1048576) = true from z)
    simp only [List.append_nil, List.cons_append, List.nil_append, Rows.uptoBulkAll, Rows.uptoBulk] at z
    omega
  clear hA0 hval0 hsz0 hsz
  refine (QSnpA.garretlaw20_SnapHolds.walk Pure.SnapHolds x0.f0 x0.f1 A0_2 c0_2 x0.f2 A0_3 c0_3 x0.f3 x0.f4 x0.f5 x1.f0 x1.f1 A1_2 c1_2 x1.f2 A1_3 c1_3 x1.f3 x1.f4 x1.f5 W hr0_2 hc0_2 hr0_3 hc0_3 hr1_2 hc1_2 hr1_3 hc1_3 o0.1 o0.2.1 o0.2.2.1 o0.2.2.2.1 o0.2.2.2.2.1 o0.2.2.2.2.2 o1.1 o1.2.1 o1.2.2.1 o1.2.2.2.1 o1.2.2.2.2.1 o1.2.2.2.2.2 zB).mono fun e W' ⟨he, bel⟩ => ?_
  subst he
  exact ⟨_, rfl, _, _, _, [], _, [], hW', trodAll_mk1 (shut_bool Try.underlying4 _), (trodAll_cons_mk (Below.trod laidOut (by kernel_rfl) (of_decide_eq_true (by kernel_rfl)) k0 bel lt0) (trodAll_cons_mk (Below.trod laidOut (by kernel_rfl) (of_decide_eq_true (by kernel_rfl)) k1 bel lt1) trodAll_mk0)), rfl, bel.frame _, fun h => by cases h⟩
theorem over : Rows.snapHoldsUptoRow.holds Try.pinned (Rows.OpenSpec.upto Rows.snapHoldsSpec) :=
  OpenClaim.holds_of_cond 3 Try.f3 rfl rfl rfl rfl rfl rfl rfl ⟨rfl, rfl, rfl, rfl, rfl⟩ rfl rfl rfl rfl rfl (by kernel_rfl) Try.func3 (by kernel_rfl)
    (of_decide_eq_true (by kernel_rfl)) (by unfold Func.isWrapper; first | (rw [if_pos (by decide +kernel)]; kernel_rfl) | (rw [if_neg (by decide +kernel)]; exact ⟨rfl, rfl⟩))
    (fun os started H enc _ F => lifted os started H enc F)
theorem proved : Rows.SnapHoldsUptoSaid := over
#print axioms proved
end Go.Proofs.Ytfihbohdhcidbaa.snapHolds
namespace Go.Proofs.Ytfihbohdhcidbaa
/-- The row, under a short name, for the claim. -/
theorem snapHolds_holds : Rows.SnapHoldsUptoSaid := snapHolds.proved
end Go.Proofs.Ytfihbohdhcidbaa
