/- The document's constants and a block's words: walked. -/
import Derived.Test.YtdfhffhnioamhaaDoorYShaRef
namespace Go.Proofs.YtdfhffhnioamhaaDoor.Sha
open Go Go.RowKit Go.Proofs.YtdfhffhnioamhaaDoorW.PrintWords Go.Proofs.YtdfhffhnioamhaaDoorW.PrintLast Go.Proofs.YtdfhffhnioamhaaDoorW.PrintMore
set_option linter.unusedVariables false
set_option linter.unusedSimpArgs false

theorem K_length : K.length = 64 := by decide
theorem size64 (l : List W32) (hl : l.length ≤ 64) : (Tryd.prog.info? 69).map (·.size) = some (cw 64 l).size := by rw [cw_size hl]; kernel_rfl
set_option maxHeartbeats 1000000 in
set_option maxRecDepth 100000 in
theorem consts_calls (w : World) : Calls Tryd.prog 42 #[] w fun e w' => e = .returned (.agg (cw 64 K)) ∧ Below w.heap.size w w' := by
  have HZ := Aside0.mk (size64 K (by decide))
  have HZ0 := Aside0.mk (show (cw 64 []).size = (cw 64 K).size by decide)
  have HB := Aside0.mk (Below.refl w.heap.size w)
  have HK : Aside0 ((#[.int .u32 1116352408, .int .u32 1899447441, .int .u32 3049323471, .int .u32 3921009573, .int .u32 961987163, .int .u32 1508970993, .int .u32 2453635748, .int .u32 2870763221, .int .u32 3624381080, .int .u32 310598401, .int .u32 607225278, .int .u32 1426881987, .int .u32 1925078388, .int .u32 2162078206, .int .u32 2614888103, .int .u32 3248222580, .int .u32 3835390401, .int .u32 4022224774, .int .u32 264347078, .int .u32 604807628, .int .u32 770255983, .int .u32 1249150122, .int .u32 1555081692, .int .u32 1996064986, .int .u32 2554220882, .int .u32 2821834349, .int .u32 2952996808, .int .u32 3210313671, .int .u32 3336571891, .int .u32 3584528711, .int .u32 113926993, .int .u32 338241895, .int .u32 666307205, .int .u32 773529912, .int .u32 1294757372, .int .u32 1396182291, .int .u32 1695183700, .int .u32 1986661051, .int .u32 2177026350, .int .u32 2456956037, .int .u32 2730485921, .int .u32 2820302411, .int .u32 3259730800, .int .u32 3345764771, .int .u32 3516065817, .int .u32 3600352804, .int .u32 4094571909, .int .u32 275423344, .int .u32 430227734, .int .u32 506948616, .int .u32 659060556, .int .u32 883997877, .int .u32 958139571, .int .u32 1322822218, .int .u32 1537002063, .int .u32 1747873779, .int .u32 1955562222, .int .u32 2024104815, .int .u32 2227730452, .int .u32 2361852424, .int .u32 2428436474, .int .u32 2756734187, .int .u32 3204031479, .int .u32 3329325298] : Array Value) = cw 64 K) := ⟨by kernel_rfl⟩
  go_enter Tryd.func42, Tryd.ntmps42
  go_wp2_with (first
    | ((with_reducible refine gate_dst (N := 0) rfl ?_); refine box_event ?hg (N := 0) ?hd (cs := cw 64 []) (t := 69) ?hr ?_; (case hd => rfl); (case hg => rfl); (case hr => first | (go_simp; done) | (go_simp; rfl)); intro gb hg wb_ hbox hb; have n0_ := Aside0.mk (below_step HB.out hb); have n1_ := Aside0.mk hbox; have n3_ := Aside0.mk ((by rw [hg]; exact (below_size HB.out) : w.heap.size ≤ gb)); clear HB; have HB := n0_; have BK := n1_; have GE := n3_; clear n0_ n1_ n3_; clear hb hbox hg)
    | ((with_reducible refine gate_store (t := 69) (p := 0) rfl ?_); refine store_all rfl 69 (.tmp 0) _ rfl gb (cw 64 K) rfl (congrArg Value.agg HK.out) 69 _ BK.out HZ.out HZ0.out (cw_one _ _) ?_; intro ws_ hrow_ hgr_ hbl_; have q_ := Aside0.mk (hbl_ w w.heap.size GE.out HB.out); clear HB; have HB := q_; clear q_; clear BK; have BK := Aside0.mk hrow_; clear hrow_ hgr_ hbl_; (try simp only [Act.put, List.setIfInBounds_toArray, List.set_cons_zero, List.set_cons_succ])))
  refine bodyPost_ret (v := .agg (cw 64 K)) ?_ rfl ⟨rfl, HB.out⟩
  exact results_cell_row rfl _ _ gb 69 _ (0, 0) _ rfl BK.out Tryd.underlying69 rfl HZ.out
end Go.Proofs.YtdfhffhnioamhaaDoor.Sha
