/- The walk of PackTurns: it returns true. -/
import Derived.Test.YthkfcleigidihaaPkW
namespace Go.Proofs.Ythkfcleigidihaa
set_option linter.unusedVariables false
set_option linter.unusedSimpArgs false
open Go.RowKit

theorem turn_t (s l h o high : Int) (w : World) :
    Calls Try.prog 15 #[.agg #[.int .i64 s, .int .i64 l, .int .i64 h, .int .i64 o], .int .i64 high] w fun e w' => e = .returned (.tuple #[.agg #[.int .i64 (turnF s l h o high).s, .int .i64 (turnF s l h o high).l, .int .i64 (turnF s l h o high).h, .int .i64 0], .int .i64 (turnF s l h o high).e]) ∧ Below w.heap.size w w' := turn_any s l h o high w
theorem refTurn_t (s l h o high : Int) (w : World) :
    Calls Try.prog 16 #[.agg #[.int .i64 s, .int .i64 l, .int .i64 h, .int .i64 o], .int .i64 high] w fun e w' => e = .returned (.tuple #[.agg #[.int .i64 (turnF s l h o high).s, .int .i64 (turnF s l h o high).l, .int .i64 (turnF s l h o high).h, .int .i64 0], .int .i64 (turnF s l h o high).e]) ∧ Below w.heap.size w w' := refTurn_any s l h o high w

set_option maxHeartbeats 4000000 in
theorem packTurns_walk (s : Int) (_ : (Lit.int .i64 s).wf = true) (l : Int) (_ : (Lit.int .i64 l).wf = true) (h : Int) (_ : (Lit.int .i64 h).wf = true) (o : Int) (_ : (Lit.int .i64 o).wf = true) (high : Int) (_ : (Lit.int .i64 high).wf = true) (w : World) :
    Calls Try.prog 4 #[.agg #[.int .i64 s, .int .i64 l, .int .i64 h, .int .i64 o], .int .i64 high] w fun e w' => e = .returned (.bool true) ∧ Below w.heap.size w w' := by
  go_enter Try.func4, Try.ntmps4
  go_wp2_with fail
  (refine (turn_t _ _ _ _ _ _).mono ?_); rintro e w1 ⟨rfl, hw1⟩; obtain ⟨hcw1, hfw1⟩ := bcell hw1; (try (simp only [World.size_drew, World.cell?_drew, World.frozen?_drew] at hcw1 hfw1)); have hzw1 := hw1.size; (try (simp only [World.size_alloc, World.size_setCell, World.size_drew] at hzw1)); (try (have hzw1_w_0 : w.heap.size < w1.heap.size := by omega)); (try (have hzw1_w_1 : w.heap.size + 1 < w1.heap.size := by omega)); (try (have hzw1_w_2 : w.heap.size + 1 + 1 < w1.heap.size := by omega)); (try (have hzw1_w_3 : w.heap.size + 1 + 1 + 1 < w1.heap.size := by omega)); (try (have hyw1_w : w.heap.size ≤ w1.heap.size := by omega)); (try (have hyw1_wa : w.heap.size + 1 ≤ w1.heap.size := by omega))
  go_wp2_with fail
  (refine (refTurn_t _ _ _ _ _ _).mono ?_); rintro e w2 ⟨rfl, hw2⟩; obtain ⟨hcw2, hfw2⟩ := bcell hw2; (try (simp only [World.size_drew, World.cell?_drew, World.frozen?_drew] at hcw2 hfw2)); have hzw2 := hw2.size; (try (simp only [World.size_alloc, World.size_setCell, World.size_drew] at hzw2)); (try (have hzw2_w_0 : w.heap.size < w2.heap.size := by omega)); (try (have hzw2_w_1 : w.heap.size + 1 < w2.heap.size := by omega)); (try (have hzw2_w_2 : w.heap.size + 1 + 1 < w2.heap.size := by omega)); (try (have hzw2_w_3 : w.heap.size + 1 + 1 + 1 < w2.heap.size := by omega)); (try (have hyw2_w : w.heap.size ≤ w2.heap.size := by omega)); (try (have hyw2_wa : w.heap.size + 1 ≤ w2.heap.size := by omega)); (try (have hzw2_w1_0 : w1.heap.size < w2.heap.size := by omega)); (try (have hzw2_w1_1 : w1.heap.size + 1 < w2.heap.size := by omega)); (try (have hzw2_w1_2 : w1.heap.size + 1 + 1 < w2.heap.size := by omega)); (try (have hzw2_w1_3 : w1.heap.size + 1 + 1 + 1 < w2.heap.size := by omega)); (try (have hyw2_w1 : w1.heap.size ≤ w2.heap.size := by omega)); (try (have hyw2_w1a : w1.heap.size + 1 ≤ w2.heap.size := by omega))
  go_wp2_with (first | (go_at_call 12; refine (num_any _ _).mono ?_; rintro e w' ⟨rfl, rfl⟩) | (go_at_call 9; refine (works_any _).mono ?_; rintro e w' ⟨rfl, hw'⟩))
  go_ret
  refine ⟨rfl, ?_⟩
  repeat (first | exact Below.refl _ _ | assumption | refine Below.alloc ?_ (by first | (simp; done) | (simp; omega) | omega) _ | refine Below.setCell ?_ (by first | (simp; done) | (simp; omega) | omega) _ | apply Below.drew | refine Below.trans ?_ (Below.mono (by assumption) (by first | (simp; done) | (simp; omega) | omega)))
end Go.Proofs.Ythkfcleigidihaa
