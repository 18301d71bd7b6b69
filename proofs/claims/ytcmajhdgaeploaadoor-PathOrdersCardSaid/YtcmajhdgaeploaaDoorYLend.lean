/- A copy of a list of texts with room behind its end, marked; and whether the mark is there: walked. -/
import Derived.Test.YtcmajhdgaeploaaDoorProg
import Derived.Test.YtcmajhdgaeploaaDoorWWords
import Derived.Test.YtcmajhdgaeploaaDoorWLast
import Derived.Test.YtcmajhdgaeploaaDoorWMore
import Derived.WalkKit
import Derived.Deep.LoopGhost
namespace Go.Proofs.YtcmajhdgaeploaaDoor.Lends
open Go Go.RowKit Go.Proofs.YtcmajhdgaeploaaDoorW.PrintWords Go.Proofs.YtcmajhdgaeploaaDoorW.PrintLast Go.Proofs.YtcmajhdgaeploaaDoorW.PrintMore
set_option linter.unusedVariables false
set_option linter.unusedSimpArgs false
def mark : ByteArray := ⟨#[109, 97, 114, 107]⟩
theorem infoS : (Tryd.prog.info? 9).map (fun i => (i.zero, i.size, i.bytes)) = some (some (.string ⟨#[]⟩), 1, 16) := by kernel_rfl
theorem own_shapeS {B n : Nat} {w : World} {v : Value} {xs : List Value} (h : w.ownsRow B 9 1 v n xs) : ∃ A c, v = .slice A n c ∧ n ≤ c ∧ (A = none → n = 0) := by
  rcases h.2 with ⟨rfl, rfl⟩ | ⟨g, cap, cur, rfl, _, _, hn, _⟩
  · exact ⟨none, 0, rfl, Nat.le_refl _, fun _ => rfl⟩
  · exact ⟨some ⟨g, 0, none⟩, cap, rfl, hn, fun e => by cases e⟩
theorem own_empty (w : World) : (w.alloc (.cells #[] 9)).ownsRow w.heap.size 9 1 (.slice (some ⟨w.heap.size, 0, none⟩) 0 0) 0 (encs Value.string []) :=
  ⟨rfl, .inr ⟨w.heap.size, 0, #[], rfl, Nat.le_refl _, heap_alloc_new w _, Nat.le_refl _, Nat.zero_le _, rfl, rfl⟩⟩
theorem slice_to (A : Option Addr) (n c m : Nat) (hm : m ≤ c) (hc : 0 < c) (W : World) :
    (Instr.slice 45 (.slice A n c) none (some (.int .i64 (m : Int))) none).run Tryd.prog W = .ok (.slice A m c) W := by
  obtain ⟨i0, hi, hzz⟩ := Option.map_eq_some_iff.1 infoS
  simp only [Prod.mk.injEq] at hzz
  have ht := Tryd.underlying45
  have hel : Tryd.prog.elem 45 = 9 := by simp [Program.elem, ht]
  have hu : Tryd.prog.underlying 45 = some (.slice (Tryd.prog.elem 45)) := by rw [hel]; exact ht
  rw [run_slice_h W 45 A n c hu .i64 (m : Int) (by omega) (by omega), hel]
  simp [sizeOf, typeInfo, hi, hzz.2.1, sliced, Result.andThen]
  intro _
  cases A with
  | none => rfl
  | some a =>
    obtain ⟨b, o, f⟩ := a
    simp only [Option.map_some, Option.some.injEq]
    unfold Addr.add
    split <;> simp_all
set_option maxHeartbeats 1000000 in
set_option maxRecDepth 100000 in
theorem lend_calls (A0 : Option Addr) (c0 : Nat) (P : List ByteArray) (w : World) (hr : Kd.C Kd.string w A0 P.length P) (hc : P.length ≤ c0) (hs : P.length ≤ 1000000000000) :
    Calls Tryd.prog 30 #[.slice A0 P.length c0] w fun e w' => (∃ A c, e = .returned (.slice A P.length c) ∧ P.length + 1 ≤ c ∧ w'.ownsRow w.heap.size 9 1 (.slice A (P.length + 1) c) (P.length + 1) (encs Value.string (P ++ [mark]))) ∧ Below w.heap.size w w' := by
  have HR0 := Aside0.mk (Kd.reads_of_C (enc := Value.string) (d := (⟨#[]⟩ : ByteArray)) (h1 := fun _ => rfl) hr)
  obtain ⟨n, hn⟩ : ∃ n, P.length = n := ⟨_, rfl⟩
  rw [hn] at HR0 hs ⊢
  have HN := Aside0.mk hn
  have HS := Aside0.mk hs
  have HR : Aside0 (ReadsOf Value.string (⟨#[]⟩ : ByteArray) (w.alloc (.cells #[] 9)) A0 n P) := ⟨HR0.out.below (below_alloc (Below.refl _ _) _)⟩
  have HB : Aside0 (Below w.heap.size w (w.alloc (.cells #[] 9))) := ⟨below_alloc (Below.refl _ _) _⟩
  have HO := Aside0.mk (own_empty w)
  clear hr hs hc hn HR0
  go_enter Tryd.func30, Tryd.ntmps30
  go_wp2_with (first
    | ((with_reducible refine gate_dst (N := 6) rfl ?_); refine print_append_row_of Value.string (⟨#[]⟩ : ByteArray) (w0 := w) w.heap.size rfl _ _ 45 9 (.string ⟨#[]⟩) 16 rfl Tryd.underlying45 infoS rfl (by decide) (fun _ => rfl) (.slice (some ⟨w.heap.size, 0, none⟩) 0 0) [] P A0 n c0 rfl rfl HO.out HR.out HB.out HB.out.size (by have := HS.out; show (0 + n) * 16 ≤ _; omega) ?_; intro v1 w1 hown hb1 hgr hat; rw [List.nil_append, HN.out] at hown; obtain ⟨A1, c1, rfl, hcc1, _⟩ := own_shapeS hown; have HO1 := Aside0.mk hown; have HB1 := Aside0.mk hb1; clear hown hb1 hgr hat hcc1 HO HB HR)
    | ((with_reducible refine gate_dst (N := 9) rfl ?_); refine print_append_of Value.string (w0 := w) (W := w1) w.heap.size rfl _ _ 45 9 (.string ⟨#[]⟩) 16 rfl Tryd.underlying45 infoS rfl (by decide) (.slice A1 n c1) P mark rfl rfl rfl (by rw [HN.out]; exact HO1.out) HB1.out HB1.out.size (by rw [HN.out]; have := HS.out; omega) ?_; intro v2 w2 hown hb2 hgr hat; rw [List.length_append, HN.out] at hown; obtain ⟨A2, c2, rfl, hcc2, _⟩ := own_shapeS hown; have HO2 := Aside0.mk hown; have HB2 := Aside0.mk hb2; have HC2 := Aside0.mk hcc2; have hsl := slice_to A2 (n + 1) c2 n (by have h_ := hcc2; simp at h_; omega) (by have h_ := hcc2; simp at h_; omega); clear hown hb2 hgr hat hcc2 HO1 HB1))
  go_ret
  exact ⟨⟨A2, c2, rfl, HC2.out, HO2.out⟩, HB2.out⟩
theorem mark_at (P : List ByteArray) (n : Nat) (h : P.length = n) : (P ++ [mark]).getD n ⟨#[]⟩ = mark := by subst h; simp
set_option maxHeartbeats 1000000 in
set_option maxRecDepth 100000 in
/-- The copy and its mark are there. -/
theorem kept_calls (A : Option Addr) (c : Nat) (A1 : Option Addr) (c1 : Nat) (P : List ByteArray) (w : World) (n : Nat) (hn : P.length = n) (hA : ReadsOf Value.string (⟨#[]⟩ : ByteArray) w A (n + 1) (P ++ [mark])) (hc : n + 1 ≤ c) (hs : n ≤ 1000000000000)
    (hsame : Calls Tryd.prog 35 #[.slice A n c, .slice A1 n c1] w fun e w' => e = .returned (.bool true) ∧ Below w.heap.size w w') :
    Calls Tryd.prog 37 #[.slice A n c, .slice A1 n c1] w fun e w' => e = .returned (.bool true) ∧ Below w.heap.size w w' := by
  have HSM := Aside0.mk hsame
  obtain ⟨ad, rfl, hcell⟩ := hA.2.2 (by omega)
  have hck := hcell n (by omega)
  rw [mark_at P n hn] at hck
  have hlt := World.block_lt_of_cell? w _ hck
  have HCK := Aside0.mk hck
  have HLT := Aside0.mk hlt
  have z0 : (0 : Int) ≤ (n : Int) := by omega
  have z1 : (n : Int) < ((n + 1 : Nat) : Int) := by omega
  have hx : wrap64 ((n : Int) + 1) = ((n + 1 : Nat) : Int) := by unfold wrap64; omega
  have hsl := slice_to (some ad) n c (n + 1) hc (by omega)
  have y0 : (0 : Int) ≤ (n : Int) + 1 := by omega
  have y1 : (n : Int) + 1 ≤ (c : Int) := by omega
  have hmk : (mark.toList == [109, 97, 114, 107]) = true := by rw [ByteArray.toList_eq]; rfl
  clear hn hA hc hs hsame hcell hck hlt
  go_enter Tryd.func37, Tryd.ntmps37
  go_wp2_with (first
    | (go_at_call 35; (refine HSM.out.mono ?_); rintro e w2 ⟨rfl, hb⟩; have HB := Aside0.mk hb; have hc2 : w2.cell? (ad.add n) = some (.string mark) := (hb.cell HLT.out).trans HCK.out; clear hb))
  go_ret
  exact ⟨rfl, HB.out⟩
end Go.Proofs.YtcmajhdgaeploaaDoor.Lends
