/- The walks of package pack, and of its reference: frontiers, what is used, whether a claim fits. -/
import Derived.Test.YtnnllhlcpmmcaaaPkC
namespace Go.Proofs.Ytnnllhlcpmmcaaa
set_option linter.unusedVariables false
set_option linter.unusedSimpArgs false
open Go.RowKit

def frontW (s l h o : Int) : Int := if rightB s l h o then s + 2 * (l + 8192 * (h + 8192 * o)) else 0
def frontE (s l h o : Int) : Int := if rightB s l h o then 0 else 2

theorem rightB_iff {s l h o : Int} : rightB s l h o = true ↔ (0 ≤ s ∧ s ≤ 1) ∧ ((0 ≤ l ∧ l ≤ 4096) ∧ (0 ≤ h ∧ h ≤ 4096) ∧ (0 ≤ o ∧ o ≤ 4096)) ∧ l + o ≤ h := by
  simp only [rightB, Bool.and_eq_true, inB1_iff, inB3_iff, decide_eq_true_eq]

set_option maxHeartbeats 400000 in
theorem front_any (s l h o : Int) (w : World) :
    Calls Try.prog 65 #[.agg #[.int .i64 s, .int .i64 l, .int .i64 h, .int .i64 o]] w fun e w' => e = .returned (.tuple #[.int .u64 (frontW s l h o), .int .i64 (frontE s l h o)]) ∧ Below w.heap.size w w' := by
  by_cases h1 : rightB s l h o = true
  · have hb := rightB_iff.1 h1
    go_enter Try.func65, Try.ntmps65
    go_wp2_with fail
    refine (right_any _ _ _ _ _).mono ?_
    rintro e w1 ⟨rfl, hw1⟩; obtain ⟨hcw1, hfw1⟩ := bcell hw1; (try (simp only [World.size_drew, World.cell?_drew, World.frozen?_drew] at hcw1 hfw1)); have hzw1 := hw1.size; (try (simp only [World.size_alloc, World.size_setCell, World.size_drew] at hzw1)); (try (have hzw1_w_0 : w.heap.size < w1.heap.size := by omega)); (try (have hzw1_w_1 : w.heap.size + 1 < w1.heap.size := by omega)); (try (have hzw1_w_2 : w.heap.size + 1 + 1 < w1.heap.size := by omega)); (try (have hzw1_w_3 : w.heap.size + 1 + 1 + 1 < w1.heap.size := by omega)); (try (have hyw1_w : w.heap.size ≤ w1.heap.size := by omega)); (try (have hyw1_wa : w.heap.size + 1 ≤ w1.heap.size := by omega))
    go_wp2
    go_ret2
    refine ⟨?_, ?_⟩
    · simp [frontW, frontE, h1]
      omega
    · repeat (first | exact Below.refl _ _ | assumption | refine Below.alloc ?_ (by first | (simp; done) | (simp; omega) | omega) _ | refine Below.setCell ?_ (by first | (simp; done) | (simp; omega) | omega) _ | apply Below.drew | refine Below.trans ?_ (Below.mono (by assumption) (by first | (simp; done) | (simp; omega) | omega)))
  · have h2 : rightB s l h o = false := by simpa using h1
    go_enter Try.func65, Try.ntmps65
    go_wp2_with fail
    refine (right_any _ _ _ _ _).mono ?_
    rintro e w1 ⟨rfl, hw1⟩; obtain ⟨hcw1, hfw1⟩ := bcell hw1; (try (simp only [World.size_drew, World.cell?_drew, World.frozen?_drew] at hcw1 hfw1)); have hzw1 := hw1.size; (try (simp only [World.size_alloc, World.size_setCell, World.size_drew] at hzw1)); (try (have hzw1_w_0 : w.heap.size < w1.heap.size := by omega)); (try (have hzw1_w_1 : w.heap.size + 1 < w1.heap.size := by omega)); (try (have hzw1_w_2 : w.heap.size + 1 + 1 < w1.heap.size := by omega)); (try (have hzw1_w_3 : w.heap.size + 1 + 1 + 1 < w1.heap.size := by omega)); (try (have hyw1_w : w.heap.size ≤ w1.heap.size := by omega)); (try (have hyw1_wa : w.heap.size + 1 ≤ w1.heap.size := by omega))
    go_wp2
    go_ret2
    refine ⟨?_, ?_⟩
    · simp [frontW, frontE, h2]
    · repeat (first | exact Below.refl _ _ | assumption | refine Below.alloc ?_ (by first | (simp; done) | (simp; omega) | omega) _ | refine Below.setCell ?_ (by first | (simp; done) | (simp; omega) | omega) _ | apply Below.drew | refine Below.trans ?_ (Below.mono (by assumption) (by first | (simp; done) | (simp; omega) | omega)))

set_option maxHeartbeats 400000 in
theorem refRight_any (s l h o : Int) (w : World) :
    Calls Try.prog 29 #[.agg #[.int .i64 s, .int .i64 l, .int .i64 h, .int .i64 o]] w fun e w' => e = .returned (.bool (rightB s l h o)) ∧ Below w.heap.size w w' := by
  by_cases h1 : rightB s l h o = true
  · have hb := rightB_iff.1 h1
    by_cases hs : s = 0
    · subst hs
      go_enter Try.func29, Try.ntmps29
      go_wp2
      go_ret
      refine ⟨ret_bool ?_, ?_⟩
      · first | (rw [h1]; done) | (rw [h1]; rfl) | (rw [h1]; simp; done) | (rw [h1]; simp; omega) | (rw [Bool.eq_iff_iff, rightB_iff]; simp; done) | (rw [Bool.eq_iff_iff, rightB_iff]; simp; omega)
      · repeat (first | exact Below.refl _ _ | assumption | refine Below.alloc ?_ (by first | (simp; done) | (simp; omega) | omega) _ | refine Below.setCell ?_ (by first | (simp; done) | (simp; omega) | omega) _ | apply Below.drew | refine Below.trans ?_ (Below.mono (by assumption) (by first | (simp; done) | (simp; omega) | omega)))
    · obtain rfl : s = 1 := by omega
      go_enter Try.func29, Try.ntmps29
      go_wp2
      go_ret
      refine ⟨ret_bool ?_, ?_⟩
      · first | (rw [h1]; done) | (rw [h1]; rfl) | (rw [h1]; simp; done) | (rw [h1]; simp; omega) | (rw [Bool.eq_iff_iff, rightB_iff]; simp; done) | (rw [Bool.eq_iff_iff, rightB_iff]; simp; omega)
      · repeat (first | exact Below.refl _ _ | assumption | refine Below.alloc ?_ (by first | (simp; done) | (simp; omega) | omega) _ | refine Below.setCell ?_ (by first | (simp; done) | (simp; omega) | omega) _ | apply Below.drew | refine Below.trans ?_ (Below.mono (by assumption) (by first | (simp; done) | (simp; omega) | omega)))
  · have h2 : rightB s l h o = false := by simpa using h1
    have hb : ¬ ((0 ≤ s ∧ s ≤ 1) ∧ ((0 ≤ l ∧ l ≤ 4096) ∧ (0 ≤ h ∧ h ≤ 4096) ∧ (0 ≤ o ∧ o ≤ 4096)) ∧ l + o ≤ h) := fun k => h1 (rightB_iff.2 k)
    go_enter Try.func29, Try.ntmps29
    go_wp2
    all_goals
      go_ret
      refine ⟨ret_bool ?_, ?_⟩
      · first | (rw [h2]; done) | (rw [h2]; rfl) | (rw [h2]; simp; done) | (rw [h2]; simp; omega) | (rw [Bool.eq_iff_iff, rightB_iff]; simp; done) | (rw [Bool.eq_iff_iff, rightB_iff]; simp; omega)
      · repeat (first | exact Below.refl _ _ | assumption | refine Below.alloc ?_ (by first | (simp; done) | (simp; omega) | omega) _ | refine Below.setCell ?_ (by first | (simp; done) | (simp; omega) | omega) _ | apply Below.drew | refine Below.trans ?_ (Below.mono (by assumption) (by first | (simp; done) | (simp; omega) | omega)))


end Go.Proofs.Ytnnllhlcpmmcaaa
