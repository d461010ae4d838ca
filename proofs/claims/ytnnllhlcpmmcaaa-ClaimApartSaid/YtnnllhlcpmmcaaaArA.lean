/- The walks of package arena, and of its reference: which accesses may be. -/
import Derived.Test.YtnnllhlcpmmcaaaProg
import Derived.Test.YtnnllhlcpmmcaaaLk
namespace Go.Proofs.Ytnnllhlcpmmcaaa
set_option linter.unusedVariables false
set_option linter.unusedSimpArgs false
open Go.RowKit

def accB (k a o n : Int) : Bool := decide (0 ≤ k ∧ k ≤ 3 ∧ (k = 0 → a = 0) ∧ (k < 3 → o = 0) ∧ (k < 2 → n = 0))
def chkE (k a o n : Int) : Int := if accB k a o n then 0 else 2

set_option maxHeartbeats 4000000 in
theorem check0 (a o n : Int) (w : World) :
    Calls Try.prog 48 #[.agg #[.int .i64 0, .int .i64 a, .int .u64 o, .int .u64 n]] w fun e w' => e = .returned (.int .i64 (chkE 0 a o n)) ∧ Below w.heap.size w w' := by
  by_cases ha : 0 = a
  · subst ha
    by_cases ho : 0 = o
    · subst ho
      by_cases hn : 0 = n
      · subst hn
        go_enter Try.func48, Try.ntmps48
        go_wp2
        refine wp_scope_fwd 0 rfl ?_
        go_wp2
        all_goals
          go_region
        all_goals
          go_wp2
        all_goals
          (try (go_step3; refine fwd_goto ?_; go_wp2))
          (first | rw [fwd_ret] | rw [Exit.noGoto_ret] | skip)
          go_ret
          refine ⟨?_, ?_⟩
          · simp [chkE, accB, *]
          · repeat (first | exact Below.refl _ _ | assumption | refine Below.alloc ?_ (by first | (simp; done) | (simp; omega) | omega) _ | refine Below.setCell ?_ (by first | (simp; done) | (simp; omega) | omega) _ | apply Below.drew | refine Below.trans ?_ (Below.mono (by assumption) (by first | (simp; done) | (simp; omega) | omega)))
      · have hnb : ¬ n = 0 := fun e => hn e.symm
        go_enter Try.func48, Try.ntmps48
        go_wp2
        refine wp_scope_fwd 0 rfl ?_
        go_wp2
        all_goals
          go_region
        all_goals
          go_wp2
        all_goals
          (try (go_step3; refine fwd_goto ?_; go_wp2))
          (first | rw [fwd_ret] | rw [Exit.noGoto_ret] | skip)
          go_ret
          refine ⟨?_, ?_⟩
          · simp [chkE, accB, *]
          · repeat (first | exact Below.refl _ _ | assumption | refine Below.alloc ?_ (by first | (simp; done) | (simp; omega) | omega) _ | refine Below.setCell ?_ (by first | (simp; done) | (simp; omega) | omega) _ | apply Below.drew | refine Below.trans ?_ (Below.mono (by assumption) (by first | (simp; done) | (simp; omega) | omega)))
    · have hob : ¬ o = 0 := fun e => ho e.symm
      go_enter Try.func48, Try.ntmps48
      go_wp2
      refine wp_scope_fwd 0 rfl ?_
      go_wp2
      all_goals
        go_region
      all_goals
        go_wp2
      all_goals
        (try (go_step3; refine fwd_goto ?_; go_wp2))
        (first | rw [fwd_ret] | rw [Exit.noGoto_ret] | skip)
        go_ret
        refine ⟨?_, ?_⟩
        · simp [chkE, accB, *]
        · repeat (first | exact Below.refl _ _ | assumption | refine Below.alloc ?_ (by first | (simp; done) | (simp; omega) | omega) _ | refine Below.setCell ?_ (by first | (simp; done) | (simp; omega) | omega) _ | apply Below.drew | refine Below.trans ?_ (Below.mono (by assumption) (by first | (simp; done) | (simp; omega) | omega)))
  · have hab : ¬ a = 0 := fun e => ha e.symm
    go_enter Try.func48, Try.ntmps48
    go_wp2
    refine wp_scope_fwd 0 rfl ?_
    go_wp2
    all_goals
      go_region
    all_goals
      go_wp2
    all_goals
      (try (go_step3; refine fwd_goto ?_; go_wp2))
      (first | rw [fwd_ret] | rw [Exit.noGoto_ret] | skip)
      go_ret
      refine ⟨?_, ?_⟩
      · simp [chkE, accB, *]
      · repeat (first | exact Below.refl _ _ | assumption | refine Below.alloc ?_ (by first | (simp; done) | (simp; omega) | omega) _ | refine Below.setCell ?_ (by first | (simp; done) | (simp; omega) | omega) _ | apply Below.drew | refine Below.trans ?_ (Below.mono (by assumption) (by first | (simp; done) | (simp; omega) | omega)))

set_option maxHeartbeats 4000000 in
theorem check1 (a o n : Int) (w : World) :
    Calls Try.prog 48 #[.agg #[.int .i64 1, .int .i64 a, .int .u64 o, .int .u64 n]] w fun e w' => e = .returned (.int .i64 (chkE 1 a o n)) ∧ Below w.heap.size w w' := by
  by_cases ho : 0 = o
  · subst ho
    by_cases hn : 0 = n
    · subst hn
      go_enter Try.func48, Try.ntmps48
      go_wp2
      refine wp_scope_fwd 0 rfl ?_
      go_wp2
      all_goals
        go_region
      all_goals
        go_wp2
      all_goals
        (try (go_step3; refine fwd_goto ?_; go_wp2))
        (first | rw [fwd_ret] | rw [Exit.noGoto_ret] | skip)
        go_ret
        refine ⟨?_, ?_⟩
        · simp [chkE, accB, *]
        · repeat (first | exact Below.refl _ _ | assumption | refine Below.alloc ?_ (by first | (simp; done) | (simp; omega) | omega) _ | refine Below.setCell ?_ (by first | (simp; done) | (simp; omega) | omega) _ | apply Below.drew | refine Below.trans ?_ (Below.mono (by assumption) (by first | (simp; done) | (simp; omega) | omega)))
    · have hnb : ¬ n = 0 := fun e => hn e.symm
      go_enter Try.func48, Try.ntmps48
      go_wp2
      refine wp_scope_fwd 0 rfl ?_
      go_wp2
      all_goals
        go_region
      all_goals
        go_wp2
      all_goals
        (try (go_step3; refine fwd_goto ?_; go_wp2))
        (first | rw [fwd_ret] | rw [Exit.noGoto_ret] | skip)
        go_ret
        refine ⟨?_, ?_⟩
        · simp [chkE, accB, *]
        · repeat (first | exact Below.refl _ _ | assumption | refine Below.alloc ?_ (by first | (simp; done) | (simp; omega) | omega) _ | refine Below.setCell ?_ (by first | (simp; done) | (simp; omega) | omega) _ | apply Below.drew | refine Below.trans ?_ (Below.mono (by assumption) (by first | (simp; done) | (simp; omega) | omega)))
  · have hob : ¬ o = 0 := fun e => ho e.symm
    go_enter Try.func48, Try.ntmps48
    go_wp2
    refine wp_scope_fwd 0 rfl ?_
    go_wp2
    all_goals
      go_region
    all_goals
      go_wp2
    all_goals
      (try (go_step3; refine fwd_goto ?_; go_wp2))
      (first | rw [fwd_ret] | rw [Exit.noGoto_ret] | skip)
      go_ret
      refine ⟨?_, ?_⟩
      · simp [chkE, accB, *]
      · repeat (first | exact Below.refl _ _ | assumption | refine Below.alloc ?_ (by first | (simp; done) | (simp; omega) | omega) _ | refine Below.setCell ?_ (by first | (simp; done) | (simp; omega) | omega) _ | apply Below.drew | refine Below.trans ?_ (Below.mono (by assumption) (by first | (simp; done) | (simp; omega) | omega)))

set_option maxHeartbeats 4000000 in
theorem check2 (a o n : Int) (w : World) :
    Calls Try.prog 48 #[.agg #[.int .i64 2, .int .i64 a, .int .u64 o, .int .u64 n]] w fun e w' => e = .returned (.int .i64 (chkE 2 a o n)) ∧ Below w.heap.size w w' := by
  by_cases ho : 0 = o
  · subst ho
    go_enter Try.func48, Try.ntmps48
    go_wp2
    refine wp_scope_fwd 0 rfl ?_
    go_wp2
    all_goals
      go_region
    all_goals
      go_wp2
    all_goals
      (try (go_step3; refine fwd_goto ?_; go_wp2))
      (first | rw [fwd_ret] | rw [Exit.noGoto_ret] | skip)
      go_ret
      refine ⟨?_, ?_⟩
      · simp [chkE, accB, *]
      · repeat (first | exact Below.refl _ _ | assumption | refine Below.alloc ?_ (by first | (simp; done) | (simp; omega) | omega) _ | refine Below.setCell ?_ (by first | (simp; done) | (simp; omega) | omega) _ | apply Below.drew | refine Below.trans ?_ (Below.mono (by assumption) (by first | (simp; done) | (simp; omega) | omega)))
  · have hob : ¬ o = 0 := fun e => ho e.symm
    go_enter Try.func48, Try.ntmps48
    go_wp2
    refine wp_scope_fwd 0 rfl ?_
    go_wp2
    all_goals
      go_region
    all_goals
      go_wp2
    all_goals
      (try (go_step3; refine fwd_goto ?_; go_wp2))
      (first | rw [fwd_ret] | rw [Exit.noGoto_ret] | skip)
      go_ret
      refine ⟨?_, ?_⟩
      · simp [chkE, accB, *]
      · repeat (first | exact Below.refl _ _ | assumption | refine Below.alloc ?_ (by first | (simp; done) | (simp; omega) | omega) _ | refine Below.setCell ?_ (by first | (simp; done) | (simp; omega) | omega) _ | apply Below.drew | refine Below.trans ?_ (Below.mono (by assumption) (by first | (simp; done) | (simp; omega) | omega)))

set_option maxHeartbeats 4000000 in
theorem check3 (a o n : Int) (w : World) :
    Calls Try.prog 48 #[.agg #[.int .i64 3, .int .i64 a, .int .u64 o, .int .u64 n]] w fun e w' => e = .returned (.int .i64 (chkE 3 a o n)) ∧ Below w.heap.size w w' := by
  go_enter Try.func48, Try.ntmps48
  go_wp2
  refine wp_scope_fwd 0 rfl ?_
  go_wp2
  all_goals
    go_region
  all_goals
    go_wp2
  all_goals
    (try (go_step3; refine fwd_goto ?_; go_wp2))
    (first | rw [fwd_ret] | rw [Exit.noGoto_ret] | skip)
    go_ret
    refine ⟨?_, ?_⟩
    · simp [chkE, accB, *]
    · repeat (first | exact Below.refl _ _ | assumption | refine Below.alloc ?_ (by first | (simp; done) | (simp; omega) | omega) _ | refine Below.setCell ?_ (by first | (simp; done) | (simp; omega) | omega) _ | apply Below.drew | refine Below.trans ?_ (Below.mono (by assumption) (by first | (simp; done) | (simp; omega) | omega)))

set_option maxHeartbeats 4000000 in
theorem check_out (k a o n : Int) (h : ¬ (0 ≤ k ∧ k ≤ 3)) (w : World) :
    Calls Try.prog 48 #[.agg #[.int .i64 k, .int .i64 a, .int .u64 o, .int .u64 n]] w fun e w' => e = .returned (.int .i64 (chkE k a o n)) ∧ Below w.heap.size w w' := by
  have h1 : accB k a o n = false := by simp only [accB, decide_eq_false_iff_not]; omega
  have h2 : chkE k a o n = 2 := by unfold chkE; rw [h1]; rfl
  by_cases h3 : k < 0
  · go_enter Try.func48, Try.ntmps48
    go_wp2
    refine wp_scope_fwd 0 rfl ?_
    go_wp2
    (go_step3; refine fwd_goto ?_; go_wp2)
    (first | rw [fwd_ret] | rw [Exit.noGoto_ret] | skip)
    go_ret
    refine ⟨?_, ?_⟩
    · simp [h2]
    · repeat (first | exact Below.refl _ _ | assumption | refine Below.alloc ?_ (by first | (simp; done) | (simp; omega) | omega) _ | refine Below.setCell ?_ (by first | (simp; done) | (simp; omega) | omega) _ | apply Below.drew | refine Below.trans ?_ (Below.mono (by assumption) (by first | (simp; done) | (simp; omega) | omega)))
  · go_enter Try.func48, Try.ntmps48
    go_wp2
    refine wp_scope_fwd 0 rfl ?_
    go_wp2
    (go_step3; refine fwd_goto ?_; go_wp2)
    (first | rw [fwd_ret] | rw [Exit.noGoto_ret] | skip)
    go_ret
    refine ⟨?_, ?_⟩
    · simp [h2]
    · repeat (first | exact Below.refl _ _ | assumption | refine Below.alloc ?_ (by first | (simp; done) | (simp; omega) | omega) _ | refine Below.setCell ?_ (by first | (simp; done) | (simp; omega) | omega) _ | apply Below.drew | refine Below.trans ?_ (Below.mono (by assumption) (by first | (simp; done) | (simp; omega) | omega)))

theorem check_any (k a o n : Int) (w : World) :
    Calls Try.prog 48 #[.agg #[.int .i64 k, .int .i64 a, .int .u64 o, .int .u64 n]] w fun e w' => e = .returned (.int .i64 (chkE k a o n)) ∧ Below w.heap.size w w' := by
  by_cases h : 0 ≤ k ∧ k ≤ 3
  · rcases (show k = 0 ∨ k = 1 ∨ k = 2 ∨ k = 3 by omega) with rfl | rfl | rfl | rfl
    · exact check0 a o n w
    · exact check1 a o n w
    · exact check2 a o n w
    · exact check3 a o n w
  · exact check_out k a o n h w
end Go.Proofs.Ytnnllhlcpmmcaaa
