-- Written for this claim by a program of this session.
import Derived.Test.YtnlphphaajkjpaaQNodSx6p0
import Derived.Test.YtnlphphaajkjpaaQNodSx6p1
import Derived.Test.YtnlphphaajkjpaaQNodSx6p2
namespace Go.Proofs.Ytnlphphaajkjpaa.QNodS
open Go.RowKit Go.Proofs.YtnlphphaajkjpaaW.PrintWords Go.Proofs.YtnlphphaajkjpaaW.PrintLast Go.Proofs.YtnlphphaajkjpaaW.PrintMore
attribute [local go_sem] max2_int min2_int max_two min_two max_three min_three max_four min_four   -- for this text's walks alone
set_option linter.unusedVariables false
set_option linter.unusedSimpArgs false

set_option maxRecDepth 100000 in
theorem garretlaw18_NodeSame.calls (k : Nat) (a0_0 : ByteArray) (a0_1 : Int) (a0_2 : Int) (a0_3 : Int) (a0_4 : Int) (a0_5 : Int) (A0_6 : Option Addr) (c0_6 : Nat) (l0_6 : List ByteArray) (a0_7 : ByteArray) (a0_8 : ByteArray) (a1_0 : ByteArray) (a1_1 : Int) (a1_2 : Int) (a1_3 : Int) (a1_4 : Int) (a1_5 : Int) (A1_6 : Option Addr) (c1_6 : Nat) (l1_6 : List ByteArray) (a1_7 : ByteArray) (a1_8 : ByteArray) (a2 : Int) (r : Bool) (w : World) (hr0_6 : Kd.C Kd.string w A0_6 l0_6.length l0_6) (hc0_6 : l0_6.length ≤ c0_6) (hr1_6 : Kd.C Kd.string w A1_6 l1_6.length l1_6) (hc1_6 : l1_6.length ≤ c1_6) (h : garretlaw18_NodeSame.f k a0_0 a0_1 a0_2 a0_3 a0_4 a0_5 l0_6 a0_7 a0_8 a1_0 a1_1 a1_2 a1_3 a1_4 a1_5 l1_6 a1_7 a1_8 a2 = some r) :
    Calls Try.prog 3 #[.agg #[.string a0_0, .int .i64 a0_1, .int .i64 a0_2, .int .i64 a0_3, .int .i64 a0_4, .int .i64 a0_5, .slice A0_6 l0_6.length c0_6, .string a0_7, .string a0_8], .agg #[.string a1_0, .int .i64 a1_1, .int .i64 a1_2, .int .i64 a1_3, .int .i64 a1_4, .int .i64 a1_5, .slice A1_6 l1_6.length c1_6, .string a1_7, .string a1_8], .int .i64 a2] w fun e w' => e = .returned (.bool r) ∧ Below w.heap.size w w' := by
  by_cases g0 : garretbook_Among.f a2 9 = some 0
  · exact garretlaw18_NodeSame.calls_p0 k a0_0 a0_1 a0_2 a0_3 a0_4 a0_5 A0_6 c0_6 l0_6 a0_7 a0_8 a1_0 a1_1 a1_2 a1_3 a1_4 a1_5 A1_6 c1_6 l1_6 a1_7 a1_8 a2 r w hr0_6 hc0_6 hr1_6 hc1_6 (by rw [g0]; simp) (by rw [g0]; simp) (by rw [g0]; simp) (by rw [g0]; simp) (fun z hz => by rw [g0] at hz; have := Option.some.inj hz; omega) h
  · skip
    by_cases g1 : garretbook_Among.f a2 9 = some 1
    · exact garretlaw18_NodeSame.calls_p0 k a0_0 a0_1 a0_2 a0_3 a0_4 a0_5 A0_6 c0_6 l0_6 a0_7 a0_8 a1_0 a1_1 a1_2 a1_3 a1_4 a1_5 A1_6 c1_6 l1_6 a1_7 a1_8 a2 r w hr0_6 hc0_6 hr1_6 hc1_6 (by rw [g1]; simp) (by rw [g1]; simp) (by rw [g1]; simp) (by rw [g1]; simp) (fun z hz => by rw [g1] at hz; have := Option.some.inj hz; omega) h
    · skip
      by_cases g2 : garretbook_Among.f a2 9 = some 2
      · exact garretlaw18_NodeSame.calls_p0 k a0_0 a0_1 a0_2 a0_3 a0_4 a0_5 A0_6 c0_6 l0_6 a0_7 a0_8 a1_0 a1_1 a1_2 a1_3 a1_4 a1_5 A1_6 c1_6 l1_6 a1_7 a1_8 a2 r w hr0_6 hc0_6 hr1_6 hc1_6 (by rw [g2]; simp) (by rw [g2]; simp) (by rw [g2]; simp) (by rw [g2]; simp) (fun z hz => by rw [g2] at hz; have := Option.some.inj hz; omega) h
      · skip
        by_cases g3 : garretbook_Among.f a2 9 = some 3
        · exact garretlaw18_NodeSame.calls_p0 k a0_0 a0_1 a0_2 a0_3 a0_4 a0_5 A0_6 c0_6 l0_6 a0_7 a0_8 a1_0 a1_1 a1_2 a1_3 a1_4 a1_5 A1_6 c1_6 l1_6 a1_7 a1_8 a2 r w hr0_6 hc0_6 hr1_6 hc1_6 (by rw [g3]; simp) (by rw [g3]; simp) (by rw [g3]; simp) (by rw [g3]; simp) (fun z hz => by rw [g3] at hz; have := Option.some.inj hz; omega) h
        · skip
          by_cases g4 : garretbook_Among.f a2 9 = some 4
          · exact garretlaw18_NodeSame.calls_p1 k a0_0 a0_1 a0_2 a0_3 a0_4 a0_5 A0_6 c0_6 l0_6 a0_7 a0_8 a1_0 a1_1 a1_2 a1_3 a1_4 a1_5 A1_6 c1_6 l1_6 a1_7 a1_8 a2 r w hr0_6 hc0_6 hr1_6 hc1_6 (by rw [g4]; simp) (by rw [g4]; simp) (by rw [g4]; simp) (by rw [g4]; simp) (by rw [g4]; simp) (fun z hz => by rw [g4] at hz; have := Option.some.inj hz; omega) h
          · skip
            by_cases g5 : garretbook_Among.f a2 9 = some 5
            · exact garretlaw18_NodeSame.calls_p1 k a0_0 a0_1 a0_2 a0_3 a0_4 a0_5 A0_6 c0_6 l0_6 a0_7 a0_8 a1_0 a1_1 a1_2 a1_3 a1_4 a1_5 A1_6 c1_6 l1_6 a1_7 a1_8 a2 r w hr0_6 hc0_6 hr1_6 hc1_6 (by rw [g5]; simp) (by rw [g5]; simp) (by rw [g5]; simp) (by rw [g5]; simp) (by rw [g5]; simp) (fun z hz => by rw [g5] at hz; have := Option.some.inj hz; omega) h
            · skip
              by_cases g6 : garretbook_Among.f a2 9 = some 6
              · exact garretlaw18_NodeSame.calls_p1 k a0_0 a0_1 a0_2 a0_3 a0_4 a0_5 A0_6 c0_6 l0_6 a0_7 a0_8 a1_0 a1_1 a1_2 a1_3 a1_4 a1_5 A1_6 c1_6 l1_6 a1_7 a1_8 a2 r w hr0_6 hc0_6 hr1_6 hc1_6 (by rw [g6]; simp) (by rw [g6]; simp) (by rw [g6]; simp) (by rw [g6]; simp) (by rw [g6]; simp) (fun z hz => by rw [g6] at hz; have := Option.some.inj hz; omega) h
              · skip
                by_cases g7 : garretbook_Among.f a2 9 = some 7
                · exact garretlaw18_NodeSame.calls_p2 k a0_0 a0_1 a0_2 a0_3 a0_4 a0_5 A0_6 c0_6 l0_6 a0_7 a0_8 a1_0 a1_1 a1_2 a1_3 a1_4 a1_5 A1_6 c1_6 l1_6 a1_7 a1_8 a2 r w hr0_6 hc0_6 hr1_6 hc1_6 (by rw [g7]; simp) (by rw [g7]; simp) (by rw [g7]; simp) (by rw [g7]; simp) (by rw [g7]; simp) (by rw [g7]; simp) (by rw [g7]; simp) h
                · skip
                  exact garretlaw18_NodeSame.calls_p2 k a0_0 a0_1 a0_2 a0_3 a0_4 a0_5 A0_6 c0_6 l0_6 a0_7 a0_8 a1_0 a1_1 a1_2 a1_3 a1_4 a1_5 A1_6 c1_6 l1_6 a1_7 a1_8 a2 r w hr0_6 hc0_6 hr1_6 hc1_6 g0 g1 g2 g3 g4 g5 g6 h
/-- THE ONE PURE STATEMENT of garretlaw18_NodeSame: yours. -/
def garretlaw18_NodeSame.Pure : Prop := ∀ (a0_0 : ByteArray) (a0_1 : Int) (a0_2 : Int) (a0_3 : Int) (a0_4 : Int) (a0_5 : Int) (l0_6 : List ByteArray) (a0_7 : ByteArray) (a0_8 : ByteArray) (a1_0 : ByteArray) (a1_1 : Int) (a1_2 : Int) (a1_3 : Int) (a1_4 : Int) (a1_5 : Int) (l1_6 : List ByteArray) (a1_7 : ByteArray) (a1_8 : ByteArray) (a2 : Int), (a0_0.size ≤ 140737488351232) → ((Lit.int .i64 a0_1).wf = true) → ((Lit.int .i64 a0_2).wf = true) → ((Lit.int .i64 a0_3).wf = true) → ((Lit.int .i64 a0_4).wf = true) → ((Lit.int .i64 a0_5).wf = true) → (l0_6.length ≤ maxLen ∧ l0_6.length * 16 ≤ 140737488351232 ∧ ∀ l0_6y ∈ l0_6, l0_6y.size ≤ 140737488351232) → (a0_7.size ≤ 140737488351232) → (a0_8.size ≤ 140737488351232) → (a1_0.size ≤ 140737488351232) → ((Lit.int .i64 a1_1).wf = true) → ((Lit.int .i64 a1_2).wf = true) → ((Lit.int .i64 a1_3).wf = true) → ((Lit.int .i64 a1_4).wf = true) → ((Lit.int .i64 a1_5).wf = true) → (l1_6.length ≤ maxLen ∧ l1_6.length * 16 ≤ 140737488351232 ∧ ∀ l1_6y ∈ l1_6, l1_6y.size ≤ 140737488351232) → (a1_7.size ≤ 140737488351232) → (a1_8.size ≤ 140737488351232) → ((Lit.int .i64 a2).wf = true) → ∃ k, garretlaw18_NodeSame.f k a0_0 a0_1 a0_2 a0_3 a0_4 a0_5 l0_6 a0_7 a0_8 a1_0 a1_1 a1_2 a1_3 a1_4 a1_5 l1_6 a1_7 a1_8 a2 = some true
theorem garretlaw18_NodeSame.walk (P : garretlaw18_NodeSame.Pure) (a0_0 : ByteArray) (a0_1 : Int) (a0_2 : Int) (a0_3 : Int) (a0_4 : Int) (a0_5 : Int) (A0_6 : Option Addr) (c0_6 : Nat) (l0_6 : List ByteArray) (a0_7 : ByteArray) (a0_8 : ByteArray) (a1_0 : ByteArray) (a1_1 : Int) (a1_2 : Int) (a1_3 : Int) (a1_4 : Int) (a1_5 : Int) (A1_6 : Option Addr) (c1_6 : Nat) (l1_6 : List ByteArray) (a1_7 : ByteArray) (a1_8 : ByteArray) (a2 : Int) (w : World) (hr0_6 : Kd.C Kd.string w A0_6 l0_6.length l0_6) (hc0_6 : l0_6.length ≤ c0_6) (hr1_6 : Kd.C Kd.string w A1_6 l1_6.length l1_6) (hc1_6 : l1_6.length ≤ c1_6) (o0 : (a0_0.size ≤ 140737488351232)) (o1 : ((Lit.int .i64 a0_1).wf = true)) (o2 : ((Lit.int .i64 a0_2).wf = true)) (o3 : ((Lit.int .i64 a0_3).wf = true)) (o4 : ((Lit.int .i64 a0_4).wf = true)) (o5 : ((Lit.int .i64 a0_5).wf = true)) (o6 : (l0_6.length ≤ maxLen ∧ l0_6.length * 16 ≤ 140737488351232 ∧ ∀ l0_6y ∈ l0_6, l0_6y.size ≤ 140737488351232)) (o7 : (a0_7.size ≤ 140737488351232)) (o8 : (a0_8.size ≤ 140737488351232)) (o9 : (a1_0.size ≤ 140737488351232)) (o10 : ((Lit.int .i64 a1_1).wf = true)) (o11 : ((Lit.int .i64 a1_2).wf = true)) (o12 : ((Lit.int .i64 a1_3).wf = true)) (o13 : ((Lit.int .i64 a1_4).wf = true)) (o14 : ((Lit.int .i64 a1_5).wf = true)) (o15 : (l1_6.length ≤ maxLen ∧ l1_6.length * 16 ≤ 140737488351232 ∧ ∀ l1_6y ∈ l1_6, l1_6y.size ≤ 140737488351232)) (o16 : (a1_7.size ≤ 140737488351232)) (o17 : (a1_8.size ≤ 140737488351232)) (o18 : ((Lit.int .i64 a2).wf = true)) :
    Calls Try.prog 3 #[.agg #[.string a0_0, .int .i64 a0_1, .int .i64 a0_2, .int .i64 a0_3, .int .i64 a0_4, .int .i64 a0_5, .slice A0_6 l0_6.length c0_6, .string a0_7, .string a0_8], .agg #[.string a1_0, .int .i64 a1_1, .int .i64 a1_2, .int .i64 a1_3, .int .i64 a1_4, .int .i64 a1_5, .slice A1_6 l1_6.length c1_6, .string a1_7, .string a1_8], .int .i64 a2] w fun e w' => e = .returned (.bool true) ∧ Below w.heap.size w w' := by
  obtain ⟨k, h⟩ := P a0_0 a0_1 a0_2 a0_3 a0_4 a0_5 l0_6 a0_7 a0_8 a1_0 a1_1 a1_2 a1_3 a1_4 a1_5 l1_6 a1_7 a1_8 a2 o0 o1 o2 o3 o4 o5 o6 o7 o8 o9 o10 o11 o12 o13 o14 o15 o16 o17 o18
  refine (garretlaw18_NodeSame.calls k a0_0 a0_1 a0_2 a0_3 a0_4 a0_5 A0_6 c0_6 l0_6 a0_7 a0_8 a1_0 a1_1 a1_2 a1_3 a1_4 a1_5 A1_6 c1_6 l1_6 a1_7 a1_8 a2 true w hr0_6 hc0_6 hr1_6 hc1_6 h).mono ?_
  rintro e w' ⟨rfl, hd⟩
  exact ⟨rfl, hd⟩

end Go.Proofs.Ytnlphphaajkjpaa.QNodS
