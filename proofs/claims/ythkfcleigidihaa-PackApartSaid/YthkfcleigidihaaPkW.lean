/- The walk of the law package's own rows (works) of layer 2. -/
import Derived.Test.YthkfcleigidihaaPkG
import Derived.Test.YthkfcleigidihaaPkH
namespace Go.Proofs.Ythkfcleigidihaa
set_option linter.unusedVariables false
set_option linter.unusedSimpArgs false
open Go.RowKit

set_option maxHeartbeats 400000 in
theorem num_any (x : Int) (w : World) : Calls Try.prog 12 #[.int .i64 x] w fun e w' => e = .returned (.int .i64 x) ∧ w = w' := by
  go_enter Try.func12, Try.ntmps12
  go_wp2
  go_ret
  exact ⟨rfl, rfl⟩

theorem c_req (W : World) : Calls Try.prog 10 #[.agg #[.int .i64 3, .int .i64 3]] W fun e w' => e = .returned (.tuple #[.int .u64 27, .int .i64 0]) ∧ Below W.heap.size W w' := by
  have h := request_any 3 3 W
  rwa [show reqW 3 3 = 27 by decide, show reqE 3 3 = 0 by decide] at h
theorem c_ofreq (W : World) : Calls Try.prog 13 #[.int .u64 31] W fun e w' => e = .returned (.tuple #[.agg #[.int .i64 0, .int .i64 0], .int .i64 2]) ∧ Below W.heap.size W w' := by
  have h := ofRequest_any 31 W (by omega) (by omega)
  rwa [show ofReqEp 31 = 0 by decide, show ofReqPh 31 = 0 by decide, show ofReqE 31 = 2 by decide] at h
theorem c_name (W : World) : Calls Try.prog 17 #[.int .i64 6] W fun e w' => e = .returned (.tuple #[.string ⟨#[102, 108, 105, 112]⟩, .bool true]) ∧ Below W.heap.size W w' := by
  have h := name_any 6 W
  rwa [show nameS 6 = ⟨#[102, 108, 105, 112]⟩ from rfl, show inB 6 [6] = true by decide] at h
theorem c_front (W : World) : Calls Try.prog 25 #[.agg #[.int .i64 0, .int .i64 5, .int .i64 64, .int .i64 2]] W fun e w' => e = .returned (.tuple #[.int .u64 269484042, .int .i64 0]) ∧ Below W.heap.size W w' := by
  have h := front_any 0 5 64 2 W
  rwa [show frontW 0 5 64 2 = 269484042 by decide, show frontE 0 5 64 2 = 0 by decide] at h
theorem c_claim (W : World) : Calls Try.prog 19 #[.agg #[.int .i64 0, .int .i64 5, .int .i64 64, .int .i64 2], .int .i64 1, .int .i64 3] W fun e w' => e = .returned (.tuple #[.agg #[.int .i64 0, .int .i64 5, .int .i64 64, .int .i64 5], .int .i64 2, .int .i64 0]) ∧ Below W.heap.size W w' := by
  have h := claim_any 0 5 64 2 1 3 W
  rwa [show (claimF 0 5 64 2 1 3).val = .tuple #[.agg #[.int .i64 0, .int .i64 5, .int .i64 64, .int .i64 5], .int .i64 2, .int .i64 0] from rfl] at h
theorem c_turn (W : World) : Calls Try.prog 15 #[.agg #[.int .i64 0, .int .i64 5, .int .i64 64, .int .i64 2], .int .i64 60] W fun e w' => e = .returned (.tuple #[.agg #[.int .i64 1, .int .i64 2, .int .i64 60, .int .i64 0], .int .i64 0]) ∧ Below W.heap.size W w' := by
  have h := turn_any 0 5 64 2 60 W
  rwa [show (turnF 0 5 64 2 60).val = .tuple #[.agg #[.int .i64 1, .int .i64 2, .int .i64 60, .int .i64 0], .int .i64 0] from rfl] at h

set_option maxHeartbeats 4000000 in
theorem works_any (w : World) : Calls Try.prog 9 #[] w fun e w' => e = .returned (.bool true) ∧ Below w.heap.size w w' := by
  go_enter Try.func9, Try.ntmps9
  go_wp2_with fail
  (refine (c_req _).mono ?_); rintro e w1 ⟨rfl, hw1⟩; obtain ⟨hcw1, hfw1⟩ := bcell hw1; (try (simp only [World.size_drew, World.cell?_drew, World.frozen?_drew] at hcw1 hfw1)); have hzw1 := hw1.size; (try (simp only [World.size_alloc, World.size_setCell, World.size_drew] at hzw1)); (try (have hzw1_w_0 : w.heap.size < w1.heap.size := by omega)); (try (have hzw1_w_1 : w.heap.size + 1 < w1.heap.size := by omega)); (try (have hzw1_w_2 : w.heap.size + 1 + 1 < w1.heap.size := by omega)); (try (have hzw1_w_3 : w.heap.size + 1 + 1 + 1 < w1.heap.size := by omega)); (try (have hyw1_w : w.heap.size ≤ w1.heap.size := by omega)); (try (have hyw1_wa : w.heap.size + 1 ≤ w1.heap.size := by omega))
  go_wp2_with fail
  (refine (c_ofreq _).mono ?_); rintro e w2 ⟨rfl, hw2⟩; obtain ⟨hcw2, hfw2⟩ := bcell hw2; (try (simp only [World.size_drew, World.cell?_drew, World.frozen?_drew] at hcw2 hfw2)); have hzw2 := hw2.size; (try (simp only [World.size_alloc, World.size_setCell, World.size_drew] at hzw2)); (try (have hzw2_w_0 : w.heap.size < w2.heap.size := by omega)); (try (have hzw2_w_1 : w.heap.size + 1 < w2.heap.size := by omega)); (try (have hzw2_w_2 : w.heap.size + 1 + 1 < w2.heap.size := by omega)); (try (have hzw2_w_3 : w.heap.size + 1 + 1 + 1 < w2.heap.size := by omega)); (try (have hyw2_w : w.heap.size ≤ w2.heap.size := by omega)); (try (have hyw2_wa : w.heap.size + 1 ≤ w2.heap.size := by omega))
  go_wp2_with fail
  (refine (c_name _).mono ?_); rintro e w3 ⟨rfl, hw3⟩; obtain ⟨hcw3, hfw3⟩ := bcell hw3; (try (simp only [World.size_drew, World.cell?_drew, World.frozen?_drew] at hcw3 hfw3)); have hzw3 := hw3.size; (try (simp only [World.size_alloc, World.size_setCell, World.size_drew] at hzw3)); (try (have hzw3_w_0 : w.heap.size < w3.heap.size := by omega)); (try (have hzw3_w_1 : w.heap.size + 1 < w3.heap.size := by omega)); (try (have hzw3_w_2 : w.heap.size + 1 + 1 < w3.heap.size := by omega)); (try (have hzw3_w_3 : w.heap.size + 1 + 1 + 1 < w3.heap.size := by omega)); (try (have hyw3_w : w.heap.size ≤ w3.heap.size := by omega)); (try (have hyw3_wa : w.heap.size + 1 ≤ w3.heap.size := by omega))
  go_wp2_with fail
  (refine (c_front _).mono ?_); rintro e w4 ⟨rfl, hw4⟩; obtain ⟨hcw4, hfw4⟩ := bcell hw4; (try (simp only [World.size_drew, World.cell?_drew, World.frozen?_drew] at hcw4 hfw4)); have hzw4 := hw4.size; (try (simp only [World.size_alloc, World.size_setCell, World.size_drew] at hzw4)); (try (have hzw4_w_0 : w.heap.size < w4.heap.size := by omega)); (try (have hzw4_w_1 : w.heap.size + 1 < w4.heap.size := by omega)); (try (have hzw4_w_2 : w.heap.size + 1 + 1 < w4.heap.size := by omega)); (try (have hzw4_w_3 : w.heap.size + 1 + 1 + 1 < w4.heap.size := by omega)); (try (have hyw4_w : w.heap.size ≤ w4.heap.size := by omega)); (try (have hyw4_wa : w.heap.size + 1 ≤ w4.heap.size := by omega)); (try (have hzw4_w3_0 : w3.heap.size < w4.heap.size := by omega)); (try (have hzw4_w3_1 : w3.heap.size + 1 < w4.heap.size := by omega)); (try (have hzw4_w3_2 : w3.heap.size + 1 + 1 < w4.heap.size := by omega)); (try (have hzw4_w3_3 : w3.heap.size + 1 + 1 + 1 < w4.heap.size := by omega)); (try (have hyw4_w3 : w3.heap.size ≤ w4.heap.size := by omega)); (try (have hyw4_w3a : w3.heap.size + 1 ≤ w4.heap.size := by omega))
  go_wp2_with fail
  (refine (c_claim _).mono ?_); rintro e w5 ⟨rfl, hw5⟩; obtain ⟨hcw5, hfw5⟩ := bcell hw5; (try (simp only [World.size_drew, World.cell?_drew, World.frozen?_drew] at hcw5 hfw5)); have hzw5 := hw5.size; (try (simp only [World.size_alloc, World.size_setCell, World.size_drew] at hzw5)); (try (have hzw5_w_0 : w.heap.size < w5.heap.size := by omega)); (try (have hzw5_w_1 : w.heap.size + 1 < w5.heap.size := by omega)); (try (have hzw5_w_2 : w.heap.size + 1 + 1 < w5.heap.size := by omega)); (try (have hzw5_w_3 : w.heap.size + 1 + 1 + 1 < w5.heap.size := by omega)); (try (have hyw5_w : w.heap.size ≤ w5.heap.size := by omega)); (try (have hyw5_wa : w.heap.size + 1 ≤ w5.heap.size := by omega)); (try (have hzw5_w3_0 : w3.heap.size < w5.heap.size := by omega)); (try (have hzw5_w3_1 : w3.heap.size + 1 < w5.heap.size := by omega)); (try (have hzw5_w3_2 : w3.heap.size + 1 + 1 < w5.heap.size := by omega)); (try (have hzw5_w3_3 : w3.heap.size + 1 + 1 + 1 < w5.heap.size := by omega)); (try (have hyw5_w3 : w3.heap.size ≤ w5.heap.size := by omega)); (try (have hyw5_w3a : w3.heap.size + 1 ≤ w5.heap.size := by omega))
  go_wp2_with fail
  (refine (c_turn _).mono ?_); rintro e w6 ⟨rfl, hw6⟩; obtain ⟨hcw6, hfw6⟩ := bcell hw6; (try (simp only [World.size_drew, World.cell?_drew, World.frozen?_drew] at hcw6 hfw6)); have hzw6 := hw6.size; (try (simp only [World.size_alloc, World.size_setCell, World.size_drew] at hzw6)); (try (have hzw6_w_0 : w.heap.size < w6.heap.size := by omega)); (try (have hzw6_w_1 : w.heap.size + 1 < w6.heap.size := by omega)); (try (have hzw6_w_2 : w.heap.size + 1 + 1 < w6.heap.size := by omega)); (try (have hzw6_w_3 : w.heap.size + 1 + 1 + 1 < w6.heap.size := by omega)); (try (have hyw6_w : w.heap.size ≤ w6.heap.size := by omega)); (try (have hyw6_wa : w.heap.size + 1 ≤ w6.heap.size := by omega)); (try (have hzw6_w3_0 : w3.heap.size < w6.heap.size := by omega)); (try (have hzw6_w3_1 : w3.heap.size + 1 < w6.heap.size := by omega)); (try (have hzw6_w3_2 : w3.heap.size + 1 + 1 < w6.heap.size := by omega)); (try (have hzw6_w3_3 : w3.heap.size + 1 + 1 + 1 < w6.heap.size := by omega)); (try (have hyw6_w3 : w3.heap.size ≤ w6.heap.size := by omega)); (try (have hyw6_w3a : w3.heap.size + 1 ≤ w6.heap.size := by omega)); (try (have hzw6_w5_0 : w5.heap.size < w6.heap.size := by omega)); (try (have hzw6_w5_1 : w5.heap.size + 1 < w6.heap.size := by omega)); (try (have hzw6_w5_2 : w5.heap.size + 1 + 1 < w6.heap.size := by omega)); (try (have hzw6_w5_3 : w5.heap.size + 1 + 1 + 1 < w6.heap.size := by omega)); (try (have hyw6_w5 : w5.heap.size ≤ w6.heap.size := by omega)); (try (have hyw6_w5a : w5.heap.size + 1 ≤ w6.heap.size := by omega))
  go_wp2
  go_ret
  refine ⟨rfl, ?_⟩
  repeat (first | exact Below.refl _ _ | assumption | refine Below.alloc ?_ (by first | (simp; done) | (simp; omega) | omega) _ | refine Below.setCell ?_ (by first | (simp; done) | (simp; omega) | omega) _ | apply Below.drew | refine Below.trans ?_ (Below.mono (by assumption) (by first | (simp; done) | (simp; omega) | omega)))
end Go.Proofs.Ythkfcleigidihaa
