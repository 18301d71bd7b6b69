/- Three places put in order, stably: walked. -/
import Derived.Test.YtcmajhdgaeploaaDoorYPathSort
namespace Go.Proofs.YtcmajhdgaeploaaDoor.PathSort
open Go Go.RowKit Go.Proofs.YtcmajhdgaeploaaDoorW.PrintWords Go.Proofs.YtcmajhdgaeploaaDoorW.PrintLast Go.Proofs.YtcmajhdgaeploaaDoorW.PrintMore
set_option linter.unusedVariables false
set_option linter.unusedSimpArgs false
set_option maxHeartbeats 1000000 in
set_option maxRecDepth 100000 in
theorem stable3_calls (B gp cap : Nat) (L : Addr) (w : World) (hc : 3 ≤ cap) (hB : B ≤ gp) (hr : Row3 B gp cap w 0 1 2) (ha : Asks gp L B w) :
    Calls Tryd.prog 72 #[.slice (some ⟨gp, 0, none⟩) 3 cap, .int .i64 3, .func (.func 58) #[.pointer (some L)] #[]] w fun e w' =>
      e = .returned (.tuple #[]) ∧ Row3 B gp cap w' 2 1 0 ∧ Kp B gp w w' := by
  have HI := Aside0.mk (ins3_calls B gp cap L w hc hB hr ha)
  clear hr ha hB hc
  go_enter Tryd.func72, Tryd.ntmps72
  go_wp2
  go_loopw [7, 8] (fun v7 v8 W => v7 = .int .i64 0 ∧ v8 = .int .i64 20 ∧ W = w) (fun _ _ _ => 0)
  case atStart => exact ⟨rfl, rfl, rfl⟩
  case round =>
    obtain ⟨rfl, rfl, rfl⟩ := hrel
    go_wp2_with (first | (go_at_call 85; (with_reducible refine HI.out.mono ?_); rintro e w2 ⟨rfl, h1, h2⟩; have H1 := Aside0.mk h1; have H2 := Aside0.mk h2; clear h1 h2))
    go_loopw [6] (fun v6 W => v6 = .int .i64 20 ∧ W = w2) (fun _ _ => 0)
    case atStart => exact ⟨rfl, rfl⟩
    case round =>
      obtain ⟨rfl, rfl⟩ := hrel
      go_wp2
      go_end0
      exact ⟨rfl, H1.out, H2.out⟩
set_option maxHeartbeats 1000000 in
theorem sort3_calls (B gp cap : Nat) (L : Addr) (w : World) (hc : 3 ≤ cap) (hB : B ≤ gp) (hr : Row3 B gp cap w 0 1 2) (ha : Asks gp L B w) :
    Calls Tryd.prog 57 #[.slice (some ⟨gp, 0, none⟩) 3 cap, .func (.func 58) #[.pointer (some L)] #[]] w fun e w' =>
      e = .returned (.tuple #[]) ∧ Row3 B gp cap w' 2 1 0 ∧ Kp B gp w w' := by
  have HI := Aside0.mk (stable3_calls B gp cap L w hc hB hr ha)
  clear hr ha hB hc
  go_enter Tryd.func57, Tryd.ntmps57
  go_wp2_with (first | (go_at_call 72; (with_reducible refine HI.out.mono ?_); rintro e w2 ⟨rfl, h1, h2⟩; have H1 := Aside0.mk h1; have H2 := Aside0.mk h2; clear h1 h2))
  go_end0
  exact ⟨rfl, H1.out, H2.out⟩
end Go.Proofs.YtcmajhdgaeploaaDoor.PathSort
