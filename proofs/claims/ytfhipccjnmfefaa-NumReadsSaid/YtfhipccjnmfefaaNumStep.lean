/- The function step of the law NumReads, case by case: one thing that two readers are asked. Its walk. -/
import Derived.Test.YtfhipccjnmfefaaQNumx
namespace Go.Proofs.Ytfhipccjnmfefaa.QNum
open Go.RowKit Go.Proofs.YtfhipccjnmfefaaW.PrintWords Go.Proofs.YtfhipccjnmfefaaW.PrintLast Go.Proofs.YtfhipccjnmfefaaW.PrintMore
set_option linter.unusedVariables false
set_option linter.unusedSimpArgs false

theorem lift52 {w0 W W' : World} {g g2 : Nat} {t0 : ByteArray} {t1 t2 : Int} (h : IsS38 w0 W g2 t0 t1 t2) (hk : KeepBut W W' g none) (hne : g2 ≠ g) : IsS38 w0 W' g2 t0 t1 t2 := ⟨hk.blk h.1 hne (by simp), h.2⟩
theorem lift38 {w0 W W' : World} {g g2 : Nat} {t0 : ByteArray} {t1 : Int} (h : IsS52 w0 W g t0 t1) (hk : KeepBut W W' g2 none) (hne : g ≠ g2) : IsS52 w0 W' g t0 t1 := ⟨hk.blk h.1 hne (by simp), h.2⟩
theorem box_cell (w : World) (a b : Value) (t : Nat) : (w.alloc (.cells #[a, b] t)).cell? ⟨w.heap.size, 1, none⟩ = some b :=
  (blk_cell (heap_alloc_new w (.cells #[a, b] t)) 1).trans rfl

set_option maxHeartbeats 1000000 in
set_option maxRecDepth 100000 in
theorem step0 (k : Nat) (g g2 : Nat) (s0 : ByteArray) (s1 : Int) (t0 : ByteArray) (t1 t2 : Int) (kd n : Int) (r : Int) (s0' : ByteArray) (s1' : Int) (q : Int) (t0' : ByteArray) (t1' t2' : Int) (w0 w : World)
    (hI : IsS52 w0 w g s0 s1) (hJ : IsS38 w0 w g2 t0 t1 t2) (hne : g ≠ g2) (hB : Below w0.heap.size w0 w) (hk : garretbook_Among.f kd 6 = some 0)
    (h1 : num_Reader_Fixed.f s0 s1 n = some (r, s0', s1')) (h2 : garretref01_Reader_Fixed.f k t0 t1 t2 n = some (q, t0', t1', t2')) :
    Calls Try.prog 19 #[.pointer (some ⟨g, 0, none⟩), .pointer (some ⟨g2, 0, none⟩), .agg #[.int .i64 kd, .int .i64 n]] w fun e w' => e = .returned (.bool (r == q)) ∧ IsS52 w0 w' g s0' s1' ∧ IsS38 w0 w' g2 t0' t1' t2' ∧ Below w0.heap.size w0 w' := by
  have HI := Aside0.mk hI
  have HJ := Aside0.mk hJ
  have HB := Aside0.mk hB
  have H1 := Aside0.mk h1
  have H2 := Aside0.mk h2
  have HK := Aside0.mk hk
  have HN := Aside0.mk hne
  clear hI hJ hB h1 h2 hk hne
  go_enter Try.func19, Try.ntmps19
  go_wp2_with (first
    | (go_at_call 26; refine (garretbook_Among.calls kd 6 _ _ HK.out).mono ?_; rintro e w1 ⟨rfl, ⟨nd, rfl⟩⟩))
  have hc := box_cell w (.int .i64 kd) (.int .i64 n) 41
  have hsz : w.heap.size < (w.alloc (.cells #[.int .i64 kd, .int .i64 n] 41)).heap.size := by simp
  have HI1 := Aside0.mk (IsS52.drewN (IsS52.alloc HI.out (.cells #[.int .i64 kd, .int .i64 n] 41)) nd)
  have HJ1 := Aside0.mk (IsS38.drewN (IsS38.alloc HJ.out (.cells #[.int .i64 kd, .int .i64 n] 41)) nd)
  have HB1 := Aside0.mk (pw_below_drewN (below_alloc HB.out (.cells #[.int .i64 kd, .int .i64 n] 41)) nd)
  have hc1 : ((w.alloc (.cells #[.int .i64 kd, .int .i64 n] 41)).drewN nd).cell? ⟨w.heap.size, 1, none⟩ = some (.int .i64 n) := hc
  have hsz1 : w.heap.size < ((w.alloc (.cells #[.int .i64 kd, .int .i64 n] 41)).drewN nd).heap.size := hsz
  have hg1 : g < w.heap.size := IsS52.lt HI.out
  have hg2 : g2 < w.heap.size := IsS38.lt HJ.out
  clear hc hsz
  generalize (w.alloc (.cells #[.int .i64 kd, .int .i64 n] 41)).drewN nd = W at *
  clear HI HJ HB
  generalize w.heap.size = bx at *
  go_region_held3 (fun w' => w'.cell? ⟨bx, 1, none⟩ = some (.int .i64 n)) (first | assumption | go_keep)
    (first
      | (go_at_call 22; refine (num_Reader_Fixed.calls g s0 s1 n r s0' s1' w0 _ (IsS52.drew HI1.out) (below_drew1 HB1.out) H1.out).mono ?_; rintro e w1 ⟨rfl, hI2, hB2, hK2⟩; have HI2 := Aside0.mk hI2; have HB2 := Aside0.mk hB2; have HJ2 := Aside0.mk (lift52 (IsS38.drew HJ1.out) hK2 (Ne.symm HN.out)); have hc2 : w1.cell? ⟨bx, 1, none⟩ = some (.int .i64 n) := keep_cell hK2 hc1 (by show bx ≠ g; omega); clear hI2 hB2 hK2)
      | (go_at_call 29; refine (garretref01_Reader_Fixed.calls k g2 t0 t1 t2 n q t0' t1' t2' w0 _ HJ2.out HB2.out H2.out).mono ?_; rintro e w2 ⟨rfl, hI3, hB3, hK3⟩; have HI3 := Aside0.mk (lift38 HI2.out hK3 HN.out); have HB3 := Aside0.mk hB3; have HJ3 := Aside0.mk hI3; have hc3 : w2.cell? ⟨bx, 1, none⟩ = some (.int .i64 n) := keep_cell hK3 hc2 (by show bx ≠ g2; omega); clear hI3 hB3 hK3))
  go_wp2
  go_ret
  exact ⟨rfl, HI3.out, HJ3.out, HB3.out⟩

set_option maxHeartbeats 1000000 in
set_option maxRecDepth 100000 in
theorem step1 (k : Nat) (g g2 : Nat) (s0 : ByteArray) (s1 : Int) (t0 : ByteArray) (t1 t2 : Int) (kd n : Int) (r : Int) (s0' : ByteArray) (s1' : Int) (q : Int) (t0' : ByteArray) (t1' t2' : Int) (w0 w : World)
    (hI : IsS52 w0 w g s0 s1) (hJ : IsS38 w0 w g2 t0 t1 t2) (hne : g ≠ g2) (hB : Below w0.heap.size w0 w) (hk : garretbook_Among.f kd 6 = some 1)
    (h1 : num_Reader_Short.f k s0 s1 n = some (r, s0', s1')) (h2 : garretref01_Reader_Short.f k t0 t1 t2 n = some (q, t0', t1', t2')) :
    Calls Try.prog 19 #[.pointer (some ⟨g, 0, none⟩), .pointer (some ⟨g2, 0, none⟩), .agg #[.int .i64 kd, .int .i64 n]] w fun e w' => e = .returned (.bool (r == q)) ∧ IsS52 w0 w' g s0' s1' ∧ IsS38 w0 w' g2 t0' t1' t2' ∧ Below w0.heap.size w0 w' := by
  have HI := Aside0.mk hI
  have HJ := Aside0.mk hJ
  have HB := Aside0.mk hB
  have H1 := Aside0.mk h1
  have H2 := Aside0.mk h2
  have HK := Aside0.mk hk
  have HN := Aside0.mk hne
  clear hI hJ hB h1 h2 hk hne
  go_enter Try.func19, Try.ntmps19
  go_wp2_with (first
    | (go_at_call 26; refine (garretbook_Among.calls kd 6 _ _ HK.out).mono ?_; rintro e w1 ⟨rfl, ⟨nd, rfl⟩⟩))
  have hc := box_cell w (.int .i64 kd) (.int .i64 n) 41
  have hsz : w.heap.size < (w.alloc (.cells #[.int .i64 kd, .int .i64 n] 41)).heap.size := by simp
  have HI1 := Aside0.mk (IsS52.drewN (IsS52.alloc HI.out (.cells #[.int .i64 kd, .int .i64 n] 41)) nd)
  have HJ1 := Aside0.mk (IsS38.drewN (IsS38.alloc HJ.out (.cells #[.int .i64 kd, .int .i64 n] 41)) nd)
  have HB1 := Aside0.mk (pw_below_drewN (below_alloc HB.out (.cells #[.int .i64 kd, .int .i64 n] 41)) nd)
  have hc1 : ((w.alloc (.cells #[.int .i64 kd, .int .i64 n] 41)).drewN nd).cell? ⟨w.heap.size, 1, none⟩ = some (.int .i64 n) := hc
  have hsz1 : w.heap.size < ((w.alloc (.cells #[.int .i64 kd, .int .i64 n] 41)).drewN nd).heap.size := hsz
  have hg1 : g < w.heap.size := IsS52.lt HI.out
  have hg2 : g2 < w.heap.size := IsS38.lt HJ.out
  clear hc hsz
  generalize (w.alloc (.cells #[.int .i64 kd, .int .i64 n] 41)).drewN nd = W at *
  clear HI HJ HB
  generalize w.heap.size = bx at *
  go_region_held3 (fun w' => w'.cell? ⟨bx, 1, none⟩ = some (.int .i64 n)) (first | assumption | go_keep)
    (first
      | (go_at_call 16; refine (num_Reader_Short.calls k g s0 s1 n r s0' s1' w0 _ (IsS52.drew HI1.out) (below_drew1 HB1.out) H1.out).mono ?_; rintro e w1 ⟨rfl, hI2, hB2, hK2⟩; have HI2 := Aside0.mk hI2; have HB2 := Aside0.mk hB2; have HJ2 := Aside0.mk (lift52 (IsS38.drew HJ1.out) hK2 (Ne.symm HN.out)); have hc2 : w1.cell? ⟨bx, 1, none⟩ = some (.int .i64 n) := keep_cell hK2 hc1 (by show bx ≠ g; omega); clear hI2 hB2 hK2)
      | (go_at_call 30; refine (garretref01_Reader_Short.calls k g2 t0 t1 t2 n q t0' t1' t2' w0 _ HJ2.out HB2.out H2.out).mono ?_; rintro e w2 ⟨rfl, hI3, hB3, hK3⟩; have HI3 := Aside0.mk (lift38 HI2.out hK3 HN.out); have HB3 := Aside0.mk hB3; have HJ3 := Aside0.mk hI3; have hc3 : w2.cell? ⟨bx, 1, none⟩ = some (.int .i64 n) := keep_cell hK3 hc2 (by show bx ≠ g2; omega); clear hI3 hB3 hK3))
  go_wp2
  go_ret
  exact ⟨rfl, HI3.out, HJ3.out, HB3.out⟩

set_option maxHeartbeats 1000000 in
set_option maxRecDepth 100000 in
theorem step2 (k : Nat) (g g2 : Nat) (s0 : ByteArray) (s1 : Int) (t0 : ByteArray) (t1 t2 : Int) (kd n : Int) (r : ByteArray) (s0' : ByteArray) (s1' : Int) (q : ByteArray) (t0' : ByteArray) (t1' t2' : Int) (w0 w : World)
    (hI : IsS52 w0 w g s0 s1) (hJ : IsS38 w0 w g2 t0 t1 t2) (hne : g ≠ g2) (hB : Below w0.heap.size w0 w) (hk : garretbook_Among.f kd 6 = some 2)
    (h1 : num_Reader_Text.f k s0 s1 n = some (r, s0', s1')) (h2 : garretref01_Reader_Text.f k t0 t1 t2 n = some (q, t0', t1', t2')) :
    Calls Try.prog 19 #[.pointer (some ⟨g, 0, none⟩), .pointer (some ⟨g2, 0, none⟩), .agg #[.int .i64 kd, .int .i64 n]] w fun e w' => e = .returned (.bool (r.toList == q.toList)) ∧ IsS52 w0 w' g s0' s1' ∧ IsS38 w0 w' g2 t0' t1' t2' ∧ Below w0.heap.size w0 w' := by
  have HI := Aside0.mk hI
  have HJ := Aside0.mk hJ
  have HB := Aside0.mk hB
  have H1 := Aside0.mk h1
  have H2 := Aside0.mk h2
  have HK := Aside0.mk hk
  have HN := Aside0.mk hne
  clear hI hJ hB h1 h2 hk hne
  go_enter Try.func19, Try.ntmps19
  go_wp2_with (first
    | (go_at_call 26; refine (garretbook_Among.calls kd 6 _ _ HK.out).mono ?_; rintro e w1 ⟨rfl, ⟨nd, rfl⟩⟩))
  have hc := box_cell w (.int .i64 kd) (.int .i64 n) 41
  have hsz : w.heap.size < (w.alloc (.cells #[.int .i64 kd, .int .i64 n] 41)).heap.size := by simp
  have HI1 := Aside0.mk (IsS52.drewN (IsS52.alloc HI.out (.cells #[.int .i64 kd, .int .i64 n] 41)) nd)
  have HJ1 := Aside0.mk (IsS38.drewN (IsS38.alloc HJ.out (.cells #[.int .i64 kd, .int .i64 n] 41)) nd)
  have HB1 := Aside0.mk (pw_below_drewN (below_alloc HB.out (.cells #[.int .i64 kd, .int .i64 n] 41)) nd)
  have hc1 : ((w.alloc (.cells #[.int .i64 kd, .int .i64 n] 41)).drewN nd).cell? ⟨w.heap.size, 1, none⟩ = some (.int .i64 n) := hc
  have hsz1 : w.heap.size < ((w.alloc (.cells #[.int .i64 kd, .int .i64 n] 41)).drewN nd).heap.size := hsz
  have hg1 : g < w.heap.size := IsS52.lt HI.out
  have hg2 : g2 < w.heap.size := IsS38.lt HJ.out
  clear hc hsz
  generalize (w.alloc (.cells #[.int .i64 kd, .int .i64 n] 41)).drewN nd = W at *
  clear HI HJ HB
  generalize w.heap.size = bx at *
  go_region_held3 (fun w' => w'.cell? ⟨bx, 1, none⟩ = some (.int .i64 n)) (first | assumption | go_keep)
    (first
      | (go_at_call 23; refine (num_Reader_Text.calls k g s0 s1 n r s0' s1' w0 _ (IsS52.drew HI1.out) (below_drew1 HB1.out) H1.out).mono ?_; rintro e w1 ⟨rfl, hI2, hB2, hK2⟩; have HI2 := Aside0.mk hI2; have HB2 := Aside0.mk hB2; have HJ2 := Aside0.mk (lift52 (IsS38.drew HJ1.out) hK2 (Ne.symm HN.out)); have hc2 : w1.cell? ⟨bx, 1, none⟩ = some (.int .i64 n) := keep_cell hK2 hc1 (by show bx ≠ g; omega); clear hI2 hB2 hK2)
      | (go_at_call 31; refine (garretref01_Reader_Text.calls k g2 t0 t1 t2 n q t0' t1' t2' w0 _ HJ2.out HB2.out H2.out).mono ?_; rintro e w2 ⟨rfl, hI3, hB3, hK3⟩; have HI3 := Aside0.mk (lift38 HI2.out hK3 HN.out); have HB3 := Aside0.mk hB3; have HJ3 := Aside0.mk hI3; have hc3 : w2.cell? ⟨bx, 1, none⟩ = some (.int .i64 n) := keep_cell hK3 hc2 (by show bx ≠ g2; omega); clear hI3 hB3 hK3))
  go_wp2
  go_ret
  exact ⟨rfl, HI3.out, HJ3.out, HB3.out⟩

set_option maxHeartbeats 1000000 in
set_option maxRecDepth 100000 in
theorem step3 (k : Nat) (g g2 : Nat) (s0 : ByteArray) (s1 : Int) (t0 : ByteArray) (t1 t2 : Int) (kd n : Int) (r : ByteArray) (s0' : ByteArray) (s1' : Int) (q : ByteArray) (t0' : ByteArray) (t1' t2' : Int) (w0 w : World)
    (hI : IsS52 w0 w g s0 s1) (hJ : IsS38 w0 w g2 t0 t1 t2) (hne : g ≠ g2) (hB : Below w0.heap.size w0 w) (hk : garretbook_Among.f kd 6 = some 3)
    (h1 : num_Reader_Bytes.f s0 s1 n = some (r, s0', s1')) (h2 : garretref01_Reader_Bytes.f t0 t1 t2 n = some (q, t0', t1', t2')) :
    Calls Try.prog 19 #[.pointer (some ⟨g, 0, none⟩), .pointer (some ⟨g2, 0, none⟩), .agg #[.int .i64 kd, .int .i64 n]] w fun e w' => e = .returned (.bool (r.toList == q.toList)) ∧ IsS52 w0 w' g s0' s1' ∧ IsS38 w0 w' g2 t0' t1' t2' ∧ Below w0.heap.size w0 w' := by
  have HI := Aside0.mk hI
  have HJ := Aside0.mk hJ
  have HB := Aside0.mk hB
  have H1 := Aside0.mk h1
  have H2 := Aside0.mk h2
  have HK := Aside0.mk hk
  have HN := Aside0.mk hne
  clear hI hJ hB h1 h2 hk hne
  go_enter Try.func19, Try.ntmps19
  go_wp2_with (first
    | (go_at_call 26; refine (garretbook_Among.calls kd 6 _ _ HK.out).mono ?_; rintro e w1 ⟨rfl, ⟨nd, rfl⟩⟩))
  have hc := box_cell w (.int .i64 kd) (.int .i64 n) 41
  have hsz : w.heap.size < (w.alloc (.cells #[.int .i64 kd, .int .i64 n] 41)).heap.size := by simp
  have HI1 := Aside0.mk (IsS52.drewN (IsS52.alloc HI.out (.cells #[.int .i64 kd, .int .i64 n] 41)) nd)
  have HJ1 := Aside0.mk (IsS38.drewN (IsS38.alloc HJ.out (.cells #[.int .i64 kd, .int .i64 n] 41)) nd)
  have HB1 := Aside0.mk (pw_below_drewN (below_alloc HB.out (.cells #[.int .i64 kd, .int .i64 n] 41)) nd)
  have hc1 : ((w.alloc (.cells #[.int .i64 kd, .int .i64 n] 41)).drewN nd).cell? ⟨w.heap.size, 1, none⟩ = some (.int .i64 n) := hc
  have hsz1 : w.heap.size < ((w.alloc (.cells #[.int .i64 kd, .int .i64 n] 41)).drewN nd).heap.size := hsz
  have hg1 : g < w.heap.size := IsS52.lt HI.out
  have hg2 : g2 < w.heap.size := IsS38.lt HJ.out
  clear hc hsz
  generalize (w.alloc (.cells #[.int .i64 kd, .int .i64 n] 41)).drewN nd = W at *
  clear HI HJ HB
  generalize w.heap.size = bx at *
  go_region_held3 (fun w' => w'.cell? ⟨bx, 1, none⟩ = some (.int .i64 n)) (first | assumption | go_keep)
    (first
      | (go_at_call 21; refine (num_Reader_Bytes.calls g s0 s1 n r s0' s1' w0 _ (IsS52.drew HI1.out) (below_drew1 HB1.out) H1.out).mono ?_; rintro e w1 ⟨rfl, hI2, hB2, hK2⟩; have HI2 := Aside0.mk hI2; have HB2 := Aside0.mk hB2; have HJ2 := Aside0.mk (lift52 (IsS38.drew HJ1.out) hK2 (Ne.symm HN.out)); have hc2 : w1.cell? ⟨bx, 1, none⟩ = some (.int .i64 n) := keep_cell hK2 hc1 (by show bx ≠ g; omega); clear hI2 hB2 hK2)
      | (go_at_call 32; refine (garretref01_Reader_Bytes.calls g2 t0 t1 t2 n q t0' t1' t2' w0 _ HJ2.out HB2.out H2.out).mono ?_; rintro e w2 ⟨rfl, hI3, hB3, hK3⟩; have HI3 := Aside0.mk (lift38 HI2.out hK3 HN.out); have HB3 := Aside0.mk hB3; have HJ3 := Aside0.mk hI3; have hc3 : w2.cell? ⟨bx, 1, none⟩ = some (.int .i64 n) := keep_cell hK3 hc2 (by show bx ≠ g2; omega); clear hI3 hB3 hK3))
  go_wp2
  go_ret
  exact ⟨rfl, HI3.out, HJ3.out, HB3.out⟩

set_option maxHeartbeats 1000000 in
set_option maxRecDepth 100000 in
theorem step5 (k : Nat) (g g2 : Nat) (s0 : ByteArray) (s1 : Int) (t0 : ByteArray) (t1 t2 : Int) (kd n : Int) (r : Int) (s0' : ByteArray) (s1' : Int) (q : Int) (t0' : ByteArray) (t1' t2' : Int) (w0 w : World)
    (hI : IsS52 w0 w g s0 s1) (hJ : IsS38 w0 w g2 t0 t1 t2) (hne : g ≠ g2) (hB : Below w0.heap.size w0 w) (hk : garretbook_Among.f kd 6 = some 5)
    (h1 : num_Reader_End.f s0 s1 = some (r, s0', s1')) (h2 : garretref01_Reader_End.f t0 t1 t2 = some (q, t0', t1', t2')) :
    Calls Try.prog 19 #[.pointer (some ⟨g, 0, none⟩), .pointer (some ⟨g2, 0, none⟩), .agg #[.int .i64 kd, .int .i64 n]] w fun e w' => e = .returned (.bool (r == q)) ∧ IsS52 w0 w' g s0' s1' ∧ IsS38 w0 w' g2 t0' t1' t2' ∧ Below w0.heap.size w0 w' := by
  have HI := Aside0.mk hI
  have HJ := Aside0.mk hJ
  have HB := Aside0.mk hB
  have H1 := Aside0.mk h1
  have H2 := Aside0.mk h2
  have HK := Aside0.mk hk
  have HN := Aside0.mk hne
  clear hI hJ hB h1 h2 hk hne
  go_enter Try.func19, Try.ntmps19
  go_wp2_with (first
    | (go_at_call 26; refine (garretbook_Among.calls kd 6 _ _ HK.out).mono ?_; rintro e w1 ⟨rfl, ⟨nd, rfl⟩⟩))
  have hc := box_cell w (.int .i64 kd) (.int .i64 n) 41
  have hsz : w.heap.size < (w.alloc (.cells #[.int .i64 kd, .int .i64 n] 41)).heap.size := by simp
  have HI1 := Aside0.mk (IsS52.drewN (IsS52.alloc HI.out (.cells #[.int .i64 kd, .int .i64 n] 41)) nd)
  have HJ1 := Aside0.mk (IsS38.drewN (IsS38.alloc HJ.out (.cells #[.int .i64 kd, .int .i64 n] 41)) nd)
  have HB1 := Aside0.mk (pw_below_drewN (below_alloc HB.out (.cells #[.int .i64 kd, .int .i64 n] 41)) nd)
  have hc1 : ((w.alloc (.cells #[.int .i64 kd, .int .i64 n] 41)).drewN nd).cell? ⟨w.heap.size, 1, none⟩ = some (.int .i64 n) := hc
  have hsz1 : w.heap.size < ((w.alloc (.cells #[.int .i64 kd, .int .i64 n] 41)).drewN nd).heap.size := hsz
  have hg1 : g < w.heap.size := IsS52.lt HI.out
  have hg2 : g2 < w.heap.size := IsS38.lt HJ.out
  clear hc hsz
  generalize (w.alloc (.cells #[.int .i64 kd, .int .i64 n] 41)).drewN nd = W at *
  clear HI HJ HB
  generalize w.heap.size = bx at *
  go_wp2_with
    (first
      | (go_at_call 24; refine (num_Reader_End.calls g s0 s1 r s0' s1' w0 _ HI1.out HB1.out H1.out).mono ?_; rintro e w1 ⟨rfl, hI2, hB2, hK2⟩; have HI2 := Aside0.mk hI2; have HB2 := Aside0.mk hB2; have HJ2 := Aside0.mk (lift52 HJ1.out hK2 (Ne.symm HN.out)); have hc2 : w1.cell? ⟨bx, 1, none⟩ = some (.int .i64 n) := keep_cell hK2 hc1 (by show bx ≠ g; omega); clear hI2 hB2 hK2)
      | (go_at_call 34; refine (garretref01_Reader_End.calls g2 t0 t1 t2 q t0' t1' t2' w0 _ HJ2.out HB2.out H2.out).mono ?_; rintro e w2 ⟨rfl, hI3, hB3, hK3⟩; have HI3 := Aside0.mk (lift38 HI2.out hK3 HN.out); have HB3 := Aside0.mk hB3; have HJ3 := Aside0.mk hI3; have hc3 : w2.cell? ⟨bx, 1, none⟩ = some (.int .i64 n) := keep_cell hK3 hc2 (by show bx ≠ g2; omega); clear hI3 hB3 hK3))
  go_ret
  exact ⟨rfl, HI3.out, HJ3.out, HB3.out⟩

set_option maxHeartbeats 1000000 in
set_option maxRecDepth 100000 in
theorem step4 (k : Nat) (g g2 : Nat) (s0 : ByteArray) (s1 : Int) (t0 : ByteArray) (t1 t2 : Int) (kd n : Int) (s0' : ByteArray) (s1' : Int) (t0' : ByteArray) (t1' t2' : Int) (w0 w : World)
    (hI : IsS52 w0 w g s0 s1) (hJ : IsS38 w0 w g2 t0 t1 t2) (hne : g ≠ g2) (hB : Below w0.heap.size w0 w) (hk : garretbook_Among.f kd 6 = some 4)
    (h1 : num_Reader_Fail.f s0 s1 n = some (s0', s1')) (h2 : garretref01_Reader_Fail.f t0 t1 t2 n = some (t0', t1', t2')) :
    Calls Try.prog 19 #[.pointer (some ⟨g, 0, none⟩), .pointer (some ⟨g2, 0, none⟩), .agg #[.int .i64 kd, .int .i64 n]] w fun e w' => e = .returned (.bool true) ∧ IsS52 w0 w' g s0' s1' ∧ IsS38 w0 w' g2 t0' t1' t2' ∧ Below w0.heap.size w0 w' := by
  have HI := Aside0.mk hI
  have HJ := Aside0.mk hJ
  have HB := Aside0.mk hB
  have H1 := Aside0.mk h1
  have H2 := Aside0.mk h2
  have HK := Aside0.mk hk
  have HN := Aside0.mk hne
  clear hI hJ hB h1 h2 hk hne
  go_enter Try.func19, Try.ntmps19
  go_wp2_with (first
    | (go_at_call 26; refine (garretbook_Among.calls kd 6 _ _ HK.out).mono ?_; rintro e w1 ⟨rfl, ⟨nd, rfl⟩⟩))
  have hc := box_cell w (.int .i64 kd) (.int .i64 n) 41
  have hsz : w.heap.size < (w.alloc (.cells #[.int .i64 kd, .int .i64 n] 41)).heap.size := by simp
  have HI1 := Aside0.mk (IsS52.drewN (IsS52.alloc HI.out (.cells #[.int .i64 kd, .int .i64 n] 41)) nd)
  have HJ1 := Aside0.mk (IsS38.drewN (IsS38.alloc HJ.out (.cells #[.int .i64 kd, .int .i64 n] 41)) nd)
  have HB1 := Aside0.mk (pw_below_drewN (below_alloc HB.out (.cells #[.int .i64 kd, .int .i64 n] 41)) nd)
  have hc1 : ((w.alloc (.cells #[.int .i64 kd, .int .i64 n] 41)).drewN nd).cell? ⟨w.heap.size, 1, none⟩ = some (.int .i64 n) := hc
  have hsz1 : w.heap.size < ((w.alloc (.cells #[.int .i64 kd, .int .i64 n] 41)).drewN nd).heap.size := hsz
  have hg1 : g < w.heap.size := IsS52.lt HI.out
  have hg2 : g2 < w.heap.size := IsS38.lt HJ.out
  clear hc hsz
  generalize (w.alloc (.cells #[.int .i64 kd, .int .i64 n] 41)).drewN nd = W at *
  clear HI HJ HB
  generalize w.heap.size = bx at *
  go_wp2_with
    (first
      | (go_at_call 25; refine (num_Reader_Fail.calls g s0 s1 n s0' s1' w0 _ HI1.out HB1.out H1.out).mono ?_; rintro e w1 ⟨rfl, hI2, hB2, hK2⟩; have HI2 := Aside0.mk hI2; have HB2 := Aside0.mk hB2; have HJ2 := Aside0.mk (lift52 HJ1.out hK2 (Ne.symm HN.out)); have hc2 : w1.cell? ⟨bx, 1, none⟩ = some (.int .i64 n) := keep_cell hK2 hc1 (by show bx ≠ g; omega); clear hI2 hB2 hK2)
      | (go_at_call 33; refine (garretref01_Reader_Fail.calls g2 t0 t1 t2 n t0' t1' t2' w0 _ HJ2.out HB2.out H2.out).mono ?_; rintro e w2 ⟨rfl, hI3, hB3, hK3⟩; have HI3 := Aside0.mk (lift38 HI2.out hK3 HN.out); have HB3 := Aside0.mk hB3; have HJ3 := Aside0.mk hI3; have hc3 : w2.cell? ⟨bx, 1, none⟩ = some (.int .i64 n) := keep_cell hK3 hc2 (by show bx ≠ g2; omega); clear hI3 hB3 hK3))
  go_ret
  exact ⟨rfl, HI3.out, HJ3.out, HB3.out⟩

end Go.Proofs.Ytfhipccjnmfefaa.QNum
