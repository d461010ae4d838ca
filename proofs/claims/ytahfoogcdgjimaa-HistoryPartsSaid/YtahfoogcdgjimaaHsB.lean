/- The walks of package history: two calls side by side; calls in memory. -/
import Derived.Test.YtahfoogcdgjimaaHsA
namespace Go.Proofs.Ytahfoogcdgjimaa
set_option linter.unusedVariables false
set_option linter.unusedSimpArgs false
open Go.RowKit

set_option maxHeartbeats 2000000 in
theorem two_l1 (a : Nat → Int) (b d : Bool) (a' : Nat → Int) (b' d' : Bool) (w : World) (h1n : ¬ a' 12 ≤ a 12) (c1 : Hid (∀ W, Calls Try.prog 37 #[.agg #[.int .i64 (a' 0), .int .i64 (a' 1), .int .i64 (a' 2), .int .i64 (a' 3), .int .i64 (a' 4), .int .i64 (a' 5), .int .i64 (a' 6), .int .i64 (a' 7), .int .i64 (a' 8), .int .i64 (a' 9), .bool b', .int .i64 (a' 11), .int .i64 (a' 12), .int .i64 (a' 13), .bool d'], .int .i64 (a 12)] W fun e w' => e = .returned (.bool true) ∧ Below W.heap.size W w')) :
    Calls Try.prog 28 #[.agg #[.int .i64 (a 0), .int .i64 (a 1), .int .i64 (a 2), .int .i64 (a 3), .int .i64 (a 4), .int .i64 (a 5), .int .i64 (a 6), .int .i64 (a 7), .int .i64 (a 8), .int .i64 (a 9), .bool b, .int .i64 (a 11), .int .i64 (a 12), .int .i64 (a 13), .bool d], .agg #[.int .i64 (a' 0), .int .i64 (a' 1), .int .i64 (a' 2), .int .i64 (a' 3), .int .i64 (a' 4), .int .i64 (a' 5), .int .i64 (a' 6), .int .i64 (a' 7), .int .i64 (a' 8), .int .i64 (a' 9), .bool b', .int .i64 (a' 11), .int .i64 (a' 12), .int .i64 (a' 13), .bool d']] w fun e w' => e = .returned (.bool false) ∧ Below w.heap.size w w' := by
  go_enter Try.func28, Try.ntmps28
  go_wp2_with fail
  refine (unhide c1 _).mono ?_
  rintro e w1 ⟨rfl, hw1⟩; obtain ⟨hcw1, hfw1⟩ := bcell hw1; (try (simp only [World.size_drew, World.cell?_drew, World.frozen?_drew] at hcw1 hfw1)); have hzw1 := hw1.size; (try (simp only [World.size_alloc, World.size_setCell, World.size_drew] at hzw1)); (try (have hzw1_w_0 : w.heap.size < w1.heap.size := by omega)); (try (have hzw1_w_1 : w.heap.size + 1 < w1.heap.size := by omega)); (try (have hzw1_w_2 : w.heap.size + 1 + 1 < w1.heap.size := by omega)); (try (have hzw1_w_3 : w.heap.size + 1 + 1 + 1 < w1.heap.size := by omega)); (try (have hyw1_w : w.heap.size ≤ w1.heap.size := by omega)); (try (have hyw1_wa : w.heap.size + 1 ≤ w1.heap.size := by omega))
  go_wp2
  go_ret
  exact ⟨rfl, by repeat (first | exact Below.refl _ _ | assumption | refine Below.alloc ?_ (by first | (simp; done) | (simp; omega) | omega) _ | refine Below.setCell ?_ (by first | (simp; done) | (simp; omega) | omega) _ | apply Below.drew | refine Below.trans ?_ (Below.mono (by assumption) (by first | (simp; done) | (simp; omega) | omega)))⟩

set_option maxHeartbeats 2000000 in
theorem two_l2 (a : Nat → Int) (b : Bool) (a' : Nat → Int) (b' d' : Bool) (w : World) (h1n : ¬ a' 12 ≤ a 12) (c1 : Hid (∀ W, Calls Try.prog 37 #[.agg #[.int .i64 (a' 0), .int .i64 (a' 1), .int .i64 (a' 2), .int .i64 (a' 3), .int .i64 (a' 4), .int .i64 (a' 5), .int .i64 (a' 6), .int .i64 (a' 7), .int .i64 (a' 8), .int .i64 (a' 9), .bool b', .int .i64 (a' 11), .int .i64 (a' 12), .int .i64 (a' 13), .bool d'], .int .i64 (a 12)] W fun e w' => e = .returned (.bool false) ∧ Below W.heap.size W w')) (c2 : Hid (∀ W, Calls Try.prog 37 #[.agg #[.int .i64 (a' 0), .int .i64 (a' 1), .int .i64 (a' 2), .int .i64 (a' 3), .int .i64 (a' 4), .int .i64 (a' 5), .int .i64 (a' 6), .int .i64 (a' 7), .int .i64 (a' 8), .int .i64 (a' 9), .bool b', .int .i64 (a' 11), .int .i64 (a' 12), .int .i64 (a' 13), .bool d'], .int .i64 (a 13)] W fun e w' => e = .returned (.bool true) ∧ Below W.heap.size W w')) :
    Calls Try.prog 28 #[.agg #[.int .i64 (a 0), .int .i64 (a 1), .int .i64 (a 2), .int .i64 (a 3), .int .i64 (a 4), .int .i64 (a 5), .int .i64 (a 6), .int .i64 (a 7), .int .i64 (a 8), .int .i64 (a 9), .bool b, .int .i64 (a 11), .int .i64 (a 12), .int .i64 (a 13), .bool true], .agg #[.int .i64 (a' 0), .int .i64 (a' 1), .int .i64 (a' 2), .int .i64 (a' 3), .int .i64 (a' 4), .int .i64 (a' 5), .int .i64 (a' 6), .int .i64 (a' 7), .int .i64 (a' 8), .int .i64 (a' 9), .bool b', .int .i64 (a' 11), .int .i64 (a' 12), .int .i64 (a' 13), .bool d']] w fun e w' => e = .returned (.bool false) ∧ Below w.heap.size w w' := by
  go_enter Try.func28, Try.ntmps28
  go_wp2_with fail
  refine (unhide c1 _).mono ?_
  rintro e w1 ⟨rfl, hw1⟩; obtain ⟨hcw1, hfw1⟩ := bcell hw1; (try (simp only [World.size_drew, World.cell?_drew, World.frozen?_drew] at hcw1 hfw1)); have hzw1 := hw1.size; (try (simp only [World.size_alloc, World.size_setCell, World.size_drew] at hzw1)); (try (have hzw1_w_0 : w.heap.size < w1.heap.size := by omega)); (try (have hzw1_w_1 : w.heap.size + 1 < w1.heap.size := by omega)); (try (have hzw1_w_2 : w.heap.size + 1 + 1 < w1.heap.size := by omega)); (try (have hzw1_w_3 : w.heap.size + 1 + 1 + 1 < w1.heap.size := by omega)); (try (have hyw1_w : w.heap.size ≤ w1.heap.size := by omega)); (try (have hyw1_wa : w.heap.size + 1 ≤ w1.heap.size := by omega))
  go_wp2_with fail
  refine (unhide c2 _).mono ?_
  rintro e w2 ⟨rfl, hw2⟩; obtain ⟨hcw2, hfw2⟩ := bcell hw2; (try (simp only [World.size_drew, World.cell?_drew, World.frozen?_drew] at hcw2 hfw2)); have hzw2 := hw2.size; (try (simp only [World.size_alloc, World.size_setCell, World.size_drew] at hzw2)); (try (have hzw2_w_0 : w.heap.size < w2.heap.size := by omega)); (try (have hzw2_w_1 : w.heap.size + 1 < w2.heap.size := by omega)); (try (have hzw2_w_2 : w.heap.size + 1 + 1 < w2.heap.size := by omega)); (try (have hzw2_w_3 : w.heap.size + 1 + 1 + 1 < w2.heap.size := by omega)); (try (have hyw2_w : w.heap.size ≤ w2.heap.size := by omega)); (try (have hyw2_wa : w.heap.size + 1 ≤ w2.heap.size := by omega)); (try (have hzw2_w1_0 : w1.heap.size < w2.heap.size := by omega)); (try (have hzw2_w1_1 : w1.heap.size + 1 < w2.heap.size := by omega)); (try (have hzw2_w1_2 : w1.heap.size + 1 + 1 < w2.heap.size := by omega)); (try (have hzw2_w1_3 : w1.heap.size + 1 + 1 + 1 < w2.heap.size := by omega)); (try (have hyw2_w1 : w1.heap.size ≤ w2.heap.size := by omega)); (try (have hyw2_w1a : w1.heap.size + 1 ≤ w2.heap.size := by omega))
  go_wp2
  go_ret
  exact ⟨rfl, by repeat (first | exact Below.refl _ _ | assumption | refine Below.alloc ?_ (by first | (simp; done) | (simp; omega) | omega) _ | refine Below.setCell ?_ (by first | (simp; done) | (simp; omega) | omega) _ | apply Below.drew | refine Below.trans ?_ (Below.mono (by assumption) (by first | (simp; done) | (simp; omega) | omega)))⟩

set_option maxHeartbeats 2000000 in
theorem two_l3 (a : Nat → Int) (b : Bool) (a' : Nat → Int) (b' d' : Bool) (w : World) (h1n : ¬ a' 12 ≤ a 12) (c1 : Hid (∀ W, Calls Try.prog 37 #[.agg #[.int .i64 (a' 0), .int .i64 (a' 1), .int .i64 (a' 2), .int .i64 (a' 3), .int .i64 (a' 4), .int .i64 (a' 5), .int .i64 (a' 6), .int .i64 (a' 7), .int .i64 (a' 8), .int .i64 (a' 9), .bool b', .int .i64 (a' 11), .int .i64 (a' 12), .int .i64 (a' 13), .bool d'], .int .i64 (a 12)] W fun e w' => e = .returned (.bool false) ∧ Below W.heap.size W w')) (c2 : Hid (∀ W, Calls Try.prog 37 #[.agg #[.int .i64 (a' 0), .int .i64 (a' 1), .int .i64 (a' 2), .int .i64 (a' 3), .int .i64 (a' 4), .int .i64 (a' 5), .int .i64 (a' 6), .int .i64 (a' 7), .int .i64 (a' 8), .int .i64 (a' 9), .bool b', .int .i64 (a' 11), .int .i64 (a' 12), .int .i64 (a' 13), .bool d'], .int .i64 (a 13)] W fun e w' => e = .returned (.bool false) ∧ Below W.heap.size W w')) (h4b : (a 0 != a' 0) = false) (u3 : Bool) (c3 : Hid (∀ W, Calls Try.prog 13 #[.agg #[.int .i64 (a 0), .int .i64 (a 1), .int .i64 (a 2), .int .i64 (a 3), .int .i64 (a 4), .int .i64 (a 5), .int .i64 (a 6), .int .i64 (a 7), .int .i64 (a 8), .int .i64 (a 9), .bool b, .int .i64 (a 11), .int .i64 (a 12), .int .i64 (a 13), .bool true], .agg #[.int .i64 (a' 0), .int .i64 (a' 1), .int .i64 (a' 2), .int .i64 (a' 3), .int .i64 (a' 4), .int .i64 (a' 5), .int .i64 (a' 6), .int .i64 (a' 7), .int .i64 (a' 8), .int .i64 (a' 9), .bool b', .int .i64 (a' 11), .int .i64 (a' 12), .int .i64 (a' 13), .bool d']] W fun e w' => e = .returned (.bool u3) ∧ Below W.heap.size W w')) :
    Calls Try.prog 28 #[.agg #[.int .i64 (a 0), .int .i64 (a 1), .int .i64 (a 2), .int .i64 (a 3), .int .i64 (a 4), .int .i64 (a 5), .int .i64 (a 6), .int .i64 (a 7), .int .i64 (a 8), .int .i64 (a 9), .bool b, .int .i64 (a 11), .int .i64 (a 12), .int .i64 (a 13), .bool true], .agg #[.int .i64 (a' 0), .int .i64 (a' 1), .int .i64 (a' 2), .int .i64 (a' 3), .int .i64 (a' 4), .int .i64 (a' 5), .int .i64 (a' 6), .int .i64 (a' 7), .int .i64 (a' 8), .int .i64 (a' 9), .bool b', .int .i64 (a' 11), .int .i64 (a' 12), .int .i64 (a' 13), .bool d']] w fun e w' => e = .returned (.bool u3) ∧ Below w.heap.size w w' := by
  go_enter Try.func28, Try.ntmps28
  go_wp2_with fail
  refine (unhide c1 _).mono ?_
  rintro e w1 ⟨rfl, hw1⟩; obtain ⟨hcw1, hfw1⟩ := bcell hw1; (try (simp only [World.size_drew, World.cell?_drew, World.frozen?_drew] at hcw1 hfw1)); have hzw1 := hw1.size; (try (simp only [World.size_alloc, World.size_setCell, World.size_drew] at hzw1)); (try (have hzw1_w_0 : w.heap.size < w1.heap.size := by omega)); (try (have hzw1_w_1 : w.heap.size + 1 < w1.heap.size := by omega)); (try (have hzw1_w_2 : w.heap.size + 1 + 1 < w1.heap.size := by omega)); (try (have hzw1_w_3 : w.heap.size + 1 + 1 + 1 < w1.heap.size := by omega)); (try (have hyw1_w : w.heap.size ≤ w1.heap.size := by omega)); (try (have hyw1_wa : w.heap.size + 1 ≤ w1.heap.size := by omega))
  go_wp2_with fail
  refine (unhide c2 _).mono ?_
  rintro e w2 ⟨rfl, hw2⟩; obtain ⟨hcw2, hfw2⟩ := bcell hw2; (try (simp only [World.size_drew, World.cell?_drew, World.frozen?_drew] at hcw2 hfw2)); have hzw2 := hw2.size; (try (simp only [World.size_alloc, World.size_setCell, World.size_drew] at hzw2)); (try (have hzw2_w_0 : w.heap.size < w2.heap.size := by omega)); (try (have hzw2_w_1 : w.heap.size + 1 < w2.heap.size := by omega)); (try (have hzw2_w_2 : w.heap.size + 1 + 1 < w2.heap.size := by omega)); (try (have hzw2_w_3 : w.heap.size + 1 + 1 + 1 < w2.heap.size := by omega)); (try (have hyw2_w : w.heap.size ≤ w2.heap.size := by omega)); (try (have hyw2_wa : w.heap.size + 1 ≤ w2.heap.size := by omega)); (try (have hzw2_w1_0 : w1.heap.size < w2.heap.size := by omega)); (try (have hzw2_w1_1 : w1.heap.size + 1 < w2.heap.size := by omega)); (try (have hzw2_w1_2 : w1.heap.size + 1 + 1 < w2.heap.size := by omega)); (try (have hzw2_w1_3 : w1.heap.size + 1 + 1 + 1 < w2.heap.size := by omega)); (try (have hyw2_w1 : w1.heap.size ≤ w2.heap.size := by omega)); (try (have hyw2_w1a : w1.heap.size + 1 ≤ w2.heap.size := by omega))
  go_wp2_with fail
  refine (unhide c3 _).mono ?_
  rintro e w3 ⟨rfl, hw3⟩; obtain ⟨hcw3, hfw3⟩ := bcell hw3; (try (simp only [World.size_drew, World.cell?_drew, World.frozen?_drew] at hcw3 hfw3)); have hzw3 := hw3.size; (try (simp only [World.size_alloc, World.size_setCell, World.size_drew] at hzw3)); (try (have hzw3_w_0 : w.heap.size < w3.heap.size := by omega)); (try (have hzw3_w_1 : w.heap.size + 1 < w3.heap.size := by omega)); (try (have hzw3_w_2 : w.heap.size + 1 + 1 < w3.heap.size := by omega)); (try (have hzw3_w_3 : w.heap.size + 1 + 1 + 1 < w3.heap.size := by omega)); (try (have hyw3_w : w.heap.size ≤ w3.heap.size := by omega)); (try (have hyw3_wa : w.heap.size + 1 ≤ w3.heap.size := by omega)); (try (have hzw3_w1_0 : w1.heap.size < w3.heap.size := by omega)); (try (have hzw3_w1_1 : w1.heap.size + 1 < w3.heap.size := by omega)); (try (have hzw3_w1_2 : w1.heap.size + 1 + 1 < w3.heap.size := by omega)); (try (have hzw3_w1_3 : w1.heap.size + 1 + 1 + 1 < w3.heap.size := by omega)); (try (have hyw3_w1 : w1.heap.size ≤ w3.heap.size := by omega)); (try (have hyw3_w1a : w1.heap.size + 1 ≤ w3.heap.size := by omega)); (try (have hzw3_w2_0 : w2.heap.size < w3.heap.size := by omega)); (try (have hzw3_w2_1 : w2.heap.size + 1 < w3.heap.size := by omega)); (try (have hzw3_w2_2 : w2.heap.size + 1 + 1 < w3.heap.size := by omega)); (try (have hzw3_w2_3 : w2.heap.size + 1 + 1 + 1 < w3.heap.size := by omega)); (try (have hyw3_w2 : w2.heap.size ≤ w3.heap.size := by omega)); (try (have hyw3_w2a : w2.heap.size + 1 ≤ w3.heap.size := by omega))
  go_wp2
  go_ret
  exact ⟨rfl, by repeat (first | exact Below.refl _ _ | assumption | refine Below.alloc ?_ (by first | (simp; done) | (simp; omega) | omega) _ | refine Below.setCell ?_ (by first | (simp; done) | (simp; omega) | omega) _ | apply Below.drew | refine Below.trans ?_ (Below.mono (by assumption) (by first | (simp; done) | (simp; omega) | omega)))⟩

set_option maxHeartbeats 2000000 in
theorem two_l4 (a : Nat → Int) (b : Bool) (a' : Nat → Int) (b' d' : Bool) (w : World) (h1n : ¬ a' 12 ≤ a 12) (c1 : Hid (∀ W, Calls Try.prog 37 #[.agg #[.int .i64 (a' 0), .int .i64 (a' 1), .int .i64 (a' 2), .int .i64 (a' 3), .int .i64 (a' 4), .int .i64 (a' 5), .int .i64 (a' 6), .int .i64 (a' 7), .int .i64 (a' 8), .int .i64 (a' 9), .bool b', .int .i64 (a' 11), .int .i64 (a' 12), .int .i64 (a' 13), .bool d'], .int .i64 (a 12)] W fun e w' => e = .returned (.bool false) ∧ Below W.heap.size W w')) (c2 : Hid (∀ W, Calls Try.prog 37 #[.agg #[.int .i64 (a' 0), .int .i64 (a' 1), .int .i64 (a' 2), .int .i64 (a' 3), .int .i64 (a' 4), .int .i64 (a' 5), .int .i64 (a' 6), .int .i64 (a' 7), .int .i64 (a' 8), .int .i64 (a' 9), .bool b', .int .i64 (a' 11), .int .i64 (a' 12), .int .i64 (a' 13), .bool d'], .int .i64 (a 13)] W fun e w' => e = .returned (.bool false) ∧ Below W.heap.size W w')) (h4b : (a 0 != a' 0) = true) :
    Calls Try.prog 28 #[.agg #[.int .i64 (a 0), .int .i64 (a 1), .int .i64 (a 2), .int .i64 (a 3), .int .i64 (a 4), .int .i64 (a 5), .int .i64 (a 6), .int .i64 (a 7), .int .i64 (a 8), .int .i64 (a 9), .bool b, .int .i64 (a 11), .int .i64 (a 12), .int .i64 (a 13), .bool true], .agg #[.int .i64 (a' 0), .int .i64 (a' 1), .int .i64 (a' 2), .int .i64 (a' 3), .int .i64 (a' 4), .int .i64 (a' 5), .int .i64 (a' 6), .int .i64 (a' 7), .int .i64 (a' 8), .int .i64 (a' 9), .bool b', .int .i64 (a' 11), .int .i64 (a' 12), .int .i64 (a' 13), .bool d']] w fun e w' => e = .returned (.bool true) ∧ Below w.heap.size w w' := by
  go_enter Try.func28, Try.ntmps28
  go_wp2_with fail
  refine (unhide c1 _).mono ?_
  rintro e w1 ⟨rfl, hw1⟩; obtain ⟨hcw1, hfw1⟩ := bcell hw1; (try (simp only [World.size_drew, World.cell?_drew, World.frozen?_drew] at hcw1 hfw1)); have hzw1 := hw1.size; (try (simp only [World.size_alloc, World.size_setCell, World.size_drew] at hzw1)); (try (have hzw1_w_0 : w.heap.size < w1.heap.size := by omega)); (try (have hzw1_w_1 : w.heap.size + 1 < w1.heap.size := by omega)); (try (have hzw1_w_2 : w.heap.size + 1 + 1 < w1.heap.size := by omega)); (try (have hzw1_w_3 : w.heap.size + 1 + 1 + 1 < w1.heap.size := by omega)); (try (have hyw1_w : w.heap.size ≤ w1.heap.size := by omega)); (try (have hyw1_wa : w.heap.size + 1 ≤ w1.heap.size := by omega))
  go_wp2_with fail
  refine (unhide c2 _).mono ?_
  rintro e w2 ⟨rfl, hw2⟩; obtain ⟨hcw2, hfw2⟩ := bcell hw2; (try (simp only [World.size_drew, World.cell?_drew, World.frozen?_drew] at hcw2 hfw2)); have hzw2 := hw2.size; (try (simp only [World.size_alloc, World.size_setCell, World.size_drew] at hzw2)); (try (have hzw2_w_0 : w.heap.size < w2.heap.size := by omega)); (try (have hzw2_w_1 : w.heap.size + 1 < w2.heap.size := by omega)); (try (have hzw2_w_2 : w.heap.size + 1 + 1 < w2.heap.size := by omega)); (try (have hzw2_w_3 : w.heap.size + 1 + 1 + 1 < w2.heap.size := by omega)); (try (have hyw2_w : w.heap.size ≤ w2.heap.size := by omega)); (try (have hyw2_wa : w.heap.size + 1 ≤ w2.heap.size := by omega)); (try (have hzw2_w1_0 : w1.heap.size < w2.heap.size := by omega)); (try (have hzw2_w1_1 : w1.heap.size + 1 < w2.heap.size := by omega)); (try (have hzw2_w1_2 : w1.heap.size + 1 + 1 < w2.heap.size := by omega)); (try (have hzw2_w1_3 : w1.heap.size + 1 + 1 + 1 < w2.heap.size := by omega)); (try (have hyw2_w1 : w1.heap.size ≤ w2.heap.size := by omega)); (try (have hyw2_w1a : w1.heap.size + 1 ≤ w2.heap.size := by omega))
  go_wp2
  go_ret
  exact ⟨rfl, by repeat (first | exact Below.refl _ _ | assumption | refine Below.alloc ?_ (by first | (simp; done) | (simp; omega) | omega) _ | refine Below.setCell ?_ (by first | (simp; done) | (simp; omega) | omega) _ | apply Below.drew | refine Below.trans ?_ (Below.mono (by assumption) (by first | (simp; done) | (simp; omega) | omega)))⟩

set_option maxHeartbeats 2000000 in
theorem two_l5 (a : Nat → Int) (b : Bool) (a' : Nat → Int) (b' d' : Bool) (w : World) (h1n : ¬ a' 12 ≤ a 12) (c1 : Hid (∀ W, Calls Try.prog 37 #[.agg #[.int .i64 (a' 0), .int .i64 (a' 1), .int .i64 (a' 2), .int .i64 (a' 3), .int .i64 (a' 4), .int .i64 (a' 5), .int .i64 (a' 6), .int .i64 (a' 7), .int .i64 (a' 8), .int .i64 (a' 9), .bool b', .int .i64 (a' 11), .int .i64 (a' 12), .int .i64 (a' 13), .bool d'], .int .i64 (a 12)] W fun e w' => e = .returned (.bool false) ∧ Below W.heap.size W w')) (h4b : (a 0 != a' 0) = false) (u3 : Bool) (c3 : Hid (∀ W, Calls Try.prog 13 #[.agg #[.int .i64 (a 0), .int .i64 (a 1), .int .i64 (a 2), .int .i64 (a 3), .int .i64 (a 4), .int .i64 (a 5), .int .i64 (a 6), .int .i64 (a 7), .int .i64 (a 8), .int .i64 (a 9), .bool b, .int .i64 (a 11), .int .i64 (a 12), .int .i64 (a 13), .bool false], .agg #[.int .i64 (a' 0), .int .i64 (a' 1), .int .i64 (a' 2), .int .i64 (a' 3), .int .i64 (a' 4), .int .i64 (a' 5), .int .i64 (a' 6), .int .i64 (a' 7), .int .i64 (a' 8), .int .i64 (a' 9), .bool b', .int .i64 (a' 11), .int .i64 (a' 12), .int .i64 (a' 13), .bool d']] W fun e w' => e = .returned (.bool u3) ∧ Below W.heap.size W w')) :
    Calls Try.prog 28 #[.agg #[.int .i64 (a 0), .int .i64 (a 1), .int .i64 (a 2), .int .i64 (a 3), .int .i64 (a 4), .int .i64 (a 5), .int .i64 (a 6), .int .i64 (a 7), .int .i64 (a 8), .int .i64 (a 9), .bool b, .int .i64 (a 11), .int .i64 (a 12), .int .i64 (a 13), .bool false], .agg #[.int .i64 (a' 0), .int .i64 (a' 1), .int .i64 (a' 2), .int .i64 (a' 3), .int .i64 (a' 4), .int .i64 (a' 5), .int .i64 (a' 6), .int .i64 (a' 7), .int .i64 (a' 8), .int .i64 (a' 9), .bool b', .int .i64 (a' 11), .int .i64 (a' 12), .int .i64 (a' 13), .bool d']] w fun e w' => e = .returned (.bool u3) ∧ Below w.heap.size w w' := by
  go_enter Try.func28, Try.ntmps28
  go_wp2_with fail
  refine (unhide c1 _).mono ?_
  rintro e w1 ⟨rfl, hw1⟩; obtain ⟨hcw1, hfw1⟩ := bcell hw1; (try (simp only [World.size_drew, World.cell?_drew, World.frozen?_drew] at hcw1 hfw1)); have hzw1 := hw1.size; (try (simp only [World.size_alloc, World.size_setCell, World.size_drew] at hzw1)); (try (have hzw1_w_0 : w.heap.size < w1.heap.size := by omega)); (try (have hzw1_w_1 : w.heap.size + 1 < w1.heap.size := by omega)); (try (have hzw1_w_2 : w.heap.size + 1 + 1 < w1.heap.size := by omega)); (try (have hzw1_w_3 : w.heap.size + 1 + 1 + 1 < w1.heap.size := by omega)); (try (have hyw1_w : w.heap.size ≤ w1.heap.size := by omega)); (try (have hyw1_wa : w.heap.size + 1 ≤ w1.heap.size := by omega))
  go_wp2_with fail
  refine (unhide c3 _).mono ?_
  rintro e w2 ⟨rfl, hw2⟩; obtain ⟨hcw2, hfw2⟩ := bcell hw2; (try (simp only [World.size_drew, World.cell?_drew, World.frozen?_drew] at hcw2 hfw2)); have hzw2 := hw2.size; (try (simp only [World.size_alloc, World.size_setCell, World.size_drew] at hzw2)); (try (have hzw2_w_0 : w.heap.size < w2.heap.size := by omega)); (try (have hzw2_w_1 : w.heap.size + 1 < w2.heap.size := by omega)); (try (have hzw2_w_2 : w.heap.size + 1 + 1 < w2.heap.size := by omega)); (try (have hzw2_w_3 : w.heap.size + 1 + 1 + 1 < w2.heap.size := by omega)); (try (have hyw2_w : w.heap.size ≤ w2.heap.size := by omega)); (try (have hyw2_wa : w.heap.size + 1 ≤ w2.heap.size := by omega)); (try (have hzw2_w1_0 : w1.heap.size < w2.heap.size := by omega)); (try (have hzw2_w1_1 : w1.heap.size + 1 < w2.heap.size := by omega)); (try (have hzw2_w1_2 : w1.heap.size + 1 + 1 < w2.heap.size := by omega)); (try (have hzw2_w1_3 : w1.heap.size + 1 + 1 + 1 < w2.heap.size := by omega)); (try (have hyw2_w1 : w1.heap.size ≤ w2.heap.size := by omega)); (try (have hyw2_w1a : w1.heap.size + 1 ≤ w2.heap.size := by omega))
  go_wp2
  go_ret
  exact ⟨rfl, by repeat (first | exact Below.refl _ _ | assumption | refine Below.alloc ?_ (by first | (simp; done) | (simp; omega) | omega) _ | refine Below.setCell ?_ (by first | (simp; done) | (simp; omega) | omega) _ | apply Below.drew | refine Below.trans ?_ (Below.mono (by assumption) (by first | (simp; done) | (simp; omega) | omega)))⟩

set_option maxHeartbeats 2000000 in
theorem two_l6 (a : Nat → Int) (b : Bool) (a' : Nat → Int) (b' d' : Bool) (w : World) (h1n : ¬ a' 12 ≤ a 12) (c1 : Hid (∀ W, Calls Try.prog 37 #[.agg #[.int .i64 (a' 0), .int .i64 (a' 1), .int .i64 (a' 2), .int .i64 (a' 3), .int .i64 (a' 4), .int .i64 (a' 5), .int .i64 (a' 6), .int .i64 (a' 7), .int .i64 (a' 8), .int .i64 (a' 9), .bool b', .int .i64 (a' 11), .int .i64 (a' 12), .int .i64 (a' 13), .bool d'], .int .i64 (a 12)] W fun e w' => e = .returned (.bool false) ∧ Below W.heap.size W w')) (h4b : (a 0 != a' 0) = true) :
    Calls Try.prog 28 #[.agg #[.int .i64 (a 0), .int .i64 (a 1), .int .i64 (a 2), .int .i64 (a 3), .int .i64 (a 4), .int .i64 (a 5), .int .i64 (a 6), .int .i64 (a 7), .int .i64 (a 8), .int .i64 (a 9), .bool b, .int .i64 (a 11), .int .i64 (a 12), .int .i64 (a 13), .bool false], .agg #[.int .i64 (a' 0), .int .i64 (a' 1), .int .i64 (a' 2), .int .i64 (a' 3), .int .i64 (a' 4), .int .i64 (a' 5), .int .i64 (a' 6), .int .i64 (a' 7), .int .i64 (a' 8), .int .i64 (a' 9), .bool b', .int .i64 (a' 11), .int .i64 (a' 12), .int .i64 (a' 13), .bool d']] w fun e w' => e = .returned (.bool true) ∧ Below w.heap.size w w' := by
  go_enter Try.func28, Try.ntmps28
  go_wp2_with fail
  refine (unhide c1 _).mono ?_
  rintro e w1 ⟨rfl, hw1⟩; obtain ⟨hcw1, hfw1⟩ := bcell hw1; (try (simp only [World.size_drew, World.cell?_drew, World.frozen?_drew] at hcw1 hfw1)); have hzw1 := hw1.size; (try (simp only [World.size_alloc, World.size_setCell, World.size_drew] at hzw1)); (try (have hzw1_w_0 : w.heap.size < w1.heap.size := by omega)); (try (have hzw1_w_1 : w.heap.size + 1 < w1.heap.size := by omega)); (try (have hzw1_w_2 : w.heap.size + 1 + 1 < w1.heap.size := by omega)); (try (have hzw1_w_3 : w.heap.size + 1 + 1 + 1 < w1.heap.size := by omega)); (try (have hyw1_w : w.heap.size ≤ w1.heap.size := by omega)); (try (have hyw1_wa : w.heap.size + 1 ≤ w1.heap.size := by omega))
  go_wp2
  go_ret
  exact ⟨rfl, by repeat (first | exact Below.refl _ _ | assumption | refine Below.alloc ?_ (by first | (simp; done) | (simp; omega) | omega) _ | refine Below.setCell ?_ (by first | (simp; done) | (simp; omega) | omega) _ | apply Below.drew | refine Below.trans ?_ (Below.mono (by assumption) (by first | (simp; done) | (simp; omega) | omega)))⟩

set_option maxHeartbeats 2000000 in
theorem two_l0 (a : Nat → Int) (b d : Bool) (a' : Nat → Int) (b' d' : Bool) (w : World) (h1n : a' 12 ≤ a 12) :
    Calls Try.prog 28 #[.agg #[.int .i64 (a 0), .int .i64 (a 1), .int .i64 (a 2), .int .i64 (a 3), .int .i64 (a 4), .int .i64 (a 5), .int .i64 (a 6), .int .i64 (a 7), .int .i64 (a 8), .int .i64 (a 9), .bool b, .int .i64 (a 11), .int .i64 (a 12), .int .i64 (a 13), .bool d], .agg #[.int .i64 (a' 0), .int .i64 (a' 1), .int .i64 (a' 2), .int .i64 (a' 3), .int .i64 (a' 4), .int .i64 (a' 5), .int .i64 (a' 6), .int .i64 (a' 7), .int .i64 (a' 8), .int .i64 (a' 9), .bool b', .int .i64 (a' 11), .int .i64 (a' 12), .int .i64 (a' 13), .bool d']] w fun e w' => e = .returned (.bool false) ∧ Below w.heap.size w w' := by
  go_enter Try.func28, Try.ntmps28
  go_wp2
  go_ret
  exact ⟨rfl, by repeat (first | exact Below.refl _ _ | assumption | refine Below.alloc ?_ (by first | (simp; done) | (simp; omega) | omega) _ | refine Below.setCell ?_ (by first | (simp; done) | (simp; omega) | omega) _ | apply Below.drew | refine Below.trans ?_ (Below.mono (by assumption) (by first | (simp; done) | (simp; omega) | omega)))⟩

theorem two_any (a : Nat → Int) (b d : Bool) (a' : Nat → Int) (b' d' : Bool) (w : World) :
    Calls Try.prog 28 #[.agg #[.int .i64 (a 0), .int .i64 (a 1), .int .i64 (a 2), .int .i64 (a 3), .int .i64 (a 4), .int .i64 (a 5), .int .i64 (a 6), .int .i64 (a 7), .int .i64 (a 8), .int .i64 (a 9), .bool b, .int .i64 (a 11), .int .i64 (a 12), .int .i64 (a 13), .bool d], .agg #[.int .i64 (a' 0), .int .i64 (a' 1), .int .i64 (a' 2), .int .i64 (a' 3), .int .i64 (a' 4), .int .i64 (a' 5), .int .i64 (a' 6), .int .i64 (a' 7), .int .i64 (a' 8), .int .i64 (a' 9), .bool b', .int .i64 (a' 11), .int .i64 (a' 12), .int .i64 (a' 13), .bool d']] w fun e w' => e = .returned (.bool (twoB a d a' d')) ∧ Below w.heap.size w w' := by
  by_cases h1 : a 12 < a' 12
  · have hv : twoB a d a' d' = (!hasB a' d' (a 12) && !(d && hasB a' d' (a 13)) && (decide (a 0 ≠ a' 0) || ahdB a d a')) := by rw [twoB, show decide (a 12 < a' 12) = true by simpa using h1]; simp
    rw [hv]
    have c1 := fun W => has10_any a' b' d' (a 12) W
    have c2 := fun W => has10_any a' b' d' (a 13) W
    have c3 := fun W => refAhead_any a b d a' b' d' W
    cases e1 : hasB a' d' (a 12) with
    | true =>
      rw [e1] at c1
      simpa using two_l1 a b d a' b' d' w (by omega) (hide c1)
    | false =>
      rw [e1] at c1
      by_cases h4 : a 0 = a' 0
      · have h4b : (a 0 != a' 0) = false := by simpa using h4
        cases d with
        | true =>
          cases e2 : hasB a' d' (a 13) with
          | true =>
            rw [e2] at c2
            simpa using two_l2 a b a' b' d' w (by omega) (hide c1) (hide c2)
          | false =>
            rw [e2] at c2
            simpa [h4] using two_l3 a b a' b' d' w (by omega) (hide c1) (hide c2) h4b _ (hide c3)
        | false => simpa [h4] using two_l5 a b a' b' d' w (by omega) (hide c1) h4b _ (hide c3)
      · have h4b : (a 0 != a' 0) = true := by simpa using h4
        cases d with
        | true =>
          cases e2 : hasB a' d' (a 13) with
          | true =>
            rw [e2] at c2
            simpa using two_l2 a b a' b' d' w (by omega) (hide c1) (hide c2)
          | false =>
            rw [e2] at c2
            simpa [h4] using two_l4 a b a' b' d' w (by omega) (hide c1) (hide c2) h4b
        | false => simpa [h4] using two_l6 a b a' b' d' w (by omega) (hide c1) h4b
  · rw [show twoB a d a' d' = false by simp [twoB, h1]]
    exact two_l0 a b d a' b' d' w (by omega)

/-- The calls lie in memory. -/
def CallOk (w : World) (A : Option Addr) (len : Nat) (c : Nat → Nat → Int) (b d : Nat → Bool) : Prop :=
  0 < len → ∃ g o, A = some ⟨g, o, none⟩ ∧ g < w.heap.size ∧ ∀ i, i < len →
    w.cell? ⟨g, o + i * 15, none⟩ = some (.int .i64 (c i 0)) ∧ w.cell? ⟨g, o + i * 15 + 1, none⟩ = some (.int .i64 (c i 1)) ∧ w.cell? ⟨g, o + i * 15 + 2, none⟩ = some (.int .i64 (c i 2)) ∧ w.cell? ⟨g, o + i * 15 + 3, none⟩ = some (.int .i64 (c i 3)) ∧
    w.cell? ⟨g, o + i * 15 + 4, none⟩ = some (.int .i64 (c i 4)) ∧ w.cell? ⟨g, o + i * 15 + 5, none⟩ = some (.int .i64 (c i 5)) ∧ w.cell? ⟨g, o + i * 15 + 6, none⟩ = some (.int .i64 (c i 6)) ∧ w.cell? ⟨g, o + i * 15 + 7, none⟩ = some (.int .i64 (c i 7)) ∧
    w.cell? ⟨g, o + i * 15 + 8, none⟩ = some (.int .i64 (c i 8)) ∧ w.cell? ⟨g, o + i * 15 + 9, none⟩ = some (.int .i64 (c i 9)) ∧ w.cell? ⟨g, o + i * 15 + 10, none⟩ = some (.bool (b i)) ∧ w.cell? ⟨g, o + i * 15 + 11, none⟩ = some (.int .i64 (c i 11)) ∧
    w.cell? ⟨g, o + i * 15 + 12, none⟩ = some (.int .i64 (c i 12)) ∧ w.cell? ⟨g, o + i * 15 + 13, none⟩ = some (.int .i64 (c i 13)) ∧ w.cell? ⟨g, o + i * 15 + 14, none⟩ = some (.bool (d i))

theorem CallOk.keepAt {w W : World} {A : Option Addr} {len n₀ : Nat} {c : Nat → Nat → Int} {b d : Nat → Bool} (H : CallOk w A len c b d) (hs : w.heap.size ≤ W.heap.size) (hb : ∀ g o, 0 < len → A = some ⟨g, o, none⟩ → W.heap[g]? = w.heap[g]?) : CallOk W A len c b d := fun h => by
  obtain ⟨g, o, hA, hl, hc⟩ := H h
  have e : ∀ j, W.cell? ⟨g, j, none⟩ = w.cell? ⟨g, j, none⟩ := fun j => World.cell?_of_block (a := ⟨g, j, none⟩) (hb g o h hA)
  refine ⟨g, o, hA, Nat.lt_of_lt_of_le hl hs, fun i hi => ?_⟩
  simp only [e]
  exact hc i hi

theorem CallOk.keep {w W : World} {A : Option Addr} {len : Nat} {c : Nat → Nat → Int} {b d : Nat → Bool} (H : CallOk w A len c b d) (hb : Below w.heap.size w W) : CallOk W A len c b d :=
  H.keepAt (n₀ := 0) hb.size (fun g o h e => by
    obtain ⟨g', o', e', hl, _⟩ := H h
    rw [e] at e'
    injection e' with e'
    injection e' with e1 _ _
    exact hb.block g (by omega))
end Go.Proofs.Ytahfoogcdgjimaa
