/- The walks of package pack: what each function answers. -/
import Derived.Test.YtnnllhlcpmmcaaaProg
import Derived.Test.YtnnllhlcpmmcaaaLk
namespace Go.Proofs.Ytnnllhlcpmmcaaa
set_option linter.unusedVariables false
set_option linter.unusedSimpArgs false
open Go.RowKit

def inB (m : Int) (l : List Int) : Bool := l.all fun x => decide (0 ≤ x ∧ x ≤ m)

set_option maxHeartbeats 400000 in
theorem within1 (m x : Int) (b : Nat) (w : World) (hc : w.cell? ⟨b, 0, none⟩ = some (.int .i64 x)) :
    Calls Try.prog 73 #[.int .i64 m, .slice (some ⟨b, 0, none⟩) 1 1] w fun e w' => e = .returned (.bool (inB m [x])) ∧ w = w' := by
  have H : Hid (inB m [x] = decide (0 ≤ x ∧ x ≤ m)) := by unfold Hid; simp [inB]
  go_enter Try.func73, Try.ntmps73
  go_wp2
  refine wp_loop_rounds 2 ?_
  rw [rounds_succ]
  go_wp2
  all_goals (try (rw [rounds_succ]; go_wp2))
  all_goals
    go_ret
    refine ⟨ret_bool ?_, rfl⟩
    rw [H.out]
    simp
    try omega

set_option maxHeartbeats 400000 in
theorem within3 (m x y z : Int) (b : Nat) (w : World) (hc : w.cell? ⟨b, 0, none⟩ = some (.int .i64 x)) (hc1 : w.cell? ⟨b, 1, none⟩ = some (.int .i64 y)) (hc2 : w.cell? ⟨b, 2, none⟩ = some (.int .i64 z)) :
    Calls Try.prog 73 #[.int .i64 m, .slice (some ⟨b, 0, none⟩) 3 3] w fun e w' => e = .returned (.bool (inB m [x, y, z])) ∧ w = w' := by
  have H : Hid (inB m [x, y, z] = decide ((0 ≤ x ∧ x ≤ m) ∧ (0 ≤ y ∧ y ≤ m) ∧ (0 ≤ z ∧ z ≤ m))) := by unfold Hid; simp [inB]
  go_enter Try.func73, Try.ntmps73
  go_wp2
  refine wp_loop_rounds 4 ?_
  rw [rounds_succ]
  go_wp2
  all_goals (try (rw [rounds_succ]; go_wp2))
  all_goals (try (rw [rounds_succ]; go_wp2))
  all_goals (try (rw [rounds_succ]; go_wp2))
  all_goals
    go_ret
    refine ⟨ret_bool ?_, rfl⟩
    rw [H.out]
    simp
    try omega

def rightB (s l h o : Int) : Bool := inB 1 [s] && (inB 4096 [l, h, o] && decide (l + o ≤ h))

theorem inB1_iff {m x : Int} : inB m [x] = true ↔ 0 ≤ x ∧ x ≤ m := by simp [inB]
theorem inB3_iff {m x y z : Int} : inB m [x, y, z] = true ↔ (0 ≤ x ∧ x ≤ m) ∧ (0 ≤ y ∧ y ≤ m) ∧ (0 ≤ z ∧ z ≤ m) := by simp [inB]

set_option maxHeartbeats 400000 in
theorem right_any (s l h o : Int) (w : World) :
    Calls Try.prog 72 #[.agg #[.int .i64 s, .int .i64 l, .int .i64 h, .int .i64 o]] w fun e w' => e = .returned (.bool (rightB s l h o)) ∧ Below w.heap.size w w' := by
  go_enter Try.func72, Try.ntmps72
  go_wp2_with (first | (go_at_call 73; (with_reducible refine (within1 _ s _ _ ?_).mono ?_); (go_simp); rintro e w' ⟨rfl, rfl⟩) | (go_at_call 73; (with_reducible refine (within3 _ l h o _ _ ?_ ?_ ?_).mono ?_); (go_simp); (go_simp); (go_simp); rintro e w' ⟨rfl, rfl⟩))
  · have h1 : inB 1 [s] = true := by assumption
    have h3 : inB 4096 [l, h, o] = true := by assumption
    have hb := inB3_iff.1 h3
    go_ret
    refine ⟨ret_bool ?_, ?_⟩
    · rw [IntWalk.wrap64_in _ (by omega)]
      simp [rightB, h1, h3]
    · repeat (first | exact Below.refl _ _ | assumption | refine Below.alloc ?_ (by first | (simp; done) | (simp; omega) | omega) _ | refine Below.setCell ?_ (by first | (simp; done) | (simp; omega) | omega) _ | apply Below.drew | refine Below.trans ?_ (Below.mono (by assumption) (by first | (simp; done) | (simp; omega) | omega)))
  · have h1 : inB 1 [s] = true := by assumption
    have h3 : ¬ inB 4096 [l, h, o] = true := by assumption
    go_ret
    refine ⟨ret_bool ?_, ?_⟩
    · simp [rightB, h1, h3]
    · repeat (first | exact Below.refl _ _ | assumption | refine Below.alloc ?_ (by first | (simp; done) | (simp; omega) | omega) _ | refine Below.setCell ?_ (by first | (simp; done) | (simp; omega) | omega) _ | apply Below.drew | refine Below.trans ?_ (Below.mono (by assumption) (by first | (simp; done) | (simp; omega) | omega)))
  · have h1 : ¬ inB 1 [s] = true := by assumption
    go_ret
    refine ⟨ret_bool ?_, ?_⟩
    · simp [rightB, h1]
    · repeat (first | exact Below.refl _ _ | assumption | refine Below.alloc ?_ (by first | (simp; done) | (simp; omega) | omega) _ | refine Below.setCell ?_ (by first | (simp; done) | (simp; omega) | omega) _ | apply Below.drew | refine Below.trans ?_ (Below.mono (by assumption) (by first | (simp; done) | (simp; omega) | omega)))
end Go.Proofs.Ytnnllhlcpmmcaaa
