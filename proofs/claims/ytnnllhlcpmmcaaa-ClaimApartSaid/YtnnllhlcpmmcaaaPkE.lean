/- The walks of package pack, and of its reference: what is used, whether a claim fits, a frontier turned round, the names of phases. -/
import Derived.Test.YtnnllhlcpmmcaaaPkD
namespace Go.Proofs.Ytnnllhlcpmmcaaa
set_option linter.unusedVariables false
set_option linter.unusedSimpArgs false
open Go.RowKit

def usedOk (s l h o size : Int) : Bool := rightB s l h o && decide (h ≤ size ∧ size ≤ 4096)
def usedV (s l h o size : Int) : Int := if usedOk s l h o size then l + size - h + o else 0
def usedE (s l h o size : Int) : Int := if usedOk s l h o size then 0 else 2

def fitsB (s l h o n : Int) : Bool := rightB s l h o && decide (1 ≤ n ∧ n ≤ h - l - o)

set_option maxHeartbeats 1000000 in
theorem fits_any (s l h o n : Int) (w : World) :
    Calls Try.prog 63 #[.agg #[.int .i64 s, .int .i64 l, .int .i64 h, .int .i64 o], .int .i64 n] w fun e w' => e = .returned (.bool (fitsB s l h o n)) ∧ Below w.heap.size w w' := by
  by_cases h1 : rightB s l h o = true
  · have hb := rightB_iff.1 h1
    have hf : Hid (fitsB s l h o n = decide (1 ≤ n ∧ n ≤ h - l - o)) := by unfold Hid; simp [fitsB, h1]
    by_cases h3 : 1 ≤ n
    · go_enter Try.func63, Try.ntmps63
      go_wp2_with fail
      (refine (right_any _ _ _ _ _).mono ?_); rintro e w1 ⟨rfl, hw1⟩; obtain ⟨hcw1, hfw1⟩ := bcell hw1; (try (simp only [World.size_drew, World.cell?_drew, World.frozen?_drew] at hcw1 hfw1)); have hzw1 := hw1.size; (try (simp only [World.size_alloc, World.size_setCell, World.size_drew] at hzw1)); (try (have hzw1_w_0 : w.heap.size < w1.heap.size := by omega)); (try (have hzw1_w_1 : w.heap.size + 1 < w1.heap.size := by omega)); (try (have hzw1_w_2 : w.heap.size + 1 + 1 < w1.heap.size := by omega)); (try (have hzw1_w_3 : w.heap.size + 1 + 1 + 1 < w1.heap.size := by omega)); (try (have hyw1_w : w.heap.size ≤ w1.heap.size := by omega)); (try (have hyw1_wa : w.heap.size + 1 ≤ w1.heap.size := by omega))
      go_wp2
      go_ret
      refine ⟨ret_bool ?_, ?_⟩
      · rw [hf.out]
        simp
        omega
      · repeat (first | exact Below.refl _ _ | assumption | refine Below.alloc ?_ (by first | (simp; done) | (simp; omega) | omega) _ | refine Below.setCell ?_ (by first | (simp; done) | (simp; omega) | omega) _ | apply Below.drew | refine Below.trans ?_ (Below.mono (by assumption) (by first | (simp; done) | (simp; omega) | omega)))
    · have h4 : decide (1 ≤ n) = false := by simpa using h3
      go_enter Try.func63, Try.ntmps63
      go_wp2_with fail
      (refine (right_any _ _ _ _ _).mono ?_); rintro e w1 ⟨rfl, hw1⟩; obtain ⟨hcw1, hfw1⟩ := bcell hw1; (try (simp only [World.size_drew, World.cell?_drew, World.frozen?_drew] at hcw1 hfw1)); have hzw1 := hw1.size; (try (simp only [World.size_alloc, World.size_setCell, World.size_drew] at hzw1)); (try (have hzw1_w_0 : w.heap.size < w1.heap.size := by omega)); (try (have hzw1_w_1 : w.heap.size + 1 < w1.heap.size := by omega)); (try (have hzw1_w_2 : w.heap.size + 1 + 1 < w1.heap.size := by omega)); (try (have hzw1_w_3 : w.heap.size + 1 + 1 + 1 < w1.heap.size := by omega)); (try (have hyw1_w : w.heap.size ≤ w1.heap.size := by omega)); (try (have hyw1_wa : w.heap.size + 1 ≤ w1.heap.size := by omega))
      go_wp2
      go_ret
      refine ⟨ret_bool ?_, ?_⟩
      · rw [hf.out]
        simp
        omega
      · repeat (first | exact Below.refl _ _ | assumption | refine Below.alloc ?_ (by first | (simp; done) | (simp; omega) | omega) _ | refine Below.setCell ?_ (by first | (simp; done) | (simp; omega) | omega) _ | apply Below.drew | refine Below.trans ?_ (Below.mono (by assumption) (by first | (simp; done) | (simp; omega) | omega)))
  · have h2 : rightB s l h o = false := by simpa using h1
    go_enter Try.func63, Try.ntmps63
    go_wp2_with fail
    (refine (right_any _ _ _ _ _).mono ?_); rintro e w1 ⟨rfl, hw1⟩; obtain ⟨hcw1, hfw1⟩ := bcell hw1; (try (simp only [World.size_drew, World.cell?_drew, World.frozen?_drew] at hcw1 hfw1)); have hzw1 := hw1.size; (try (simp only [World.size_alloc, World.size_setCell, World.size_drew] at hzw1)); (try (have hzw1_w_0 : w.heap.size < w1.heap.size := by omega)); (try (have hzw1_w_1 : w.heap.size + 1 < w1.heap.size := by omega)); (try (have hzw1_w_2 : w.heap.size + 1 + 1 < w1.heap.size := by omega)); (try (have hzw1_w_3 : w.heap.size + 1 + 1 + 1 < w1.heap.size := by omega)); (try (have hyw1_w : w.heap.size ≤ w1.heap.size := by omega)); (try (have hyw1_wa : w.heap.size + 1 ≤ w1.heap.size := by omega))
    go_wp2
    go_ret
    refine ⟨ret_bool ?_, ?_⟩
    · simp [fitsB, h2]
    · repeat (first | exact Below.refl _ _ | assumption | refine Below.alloc ?_ (by first | (simp; done) | (simp; omega) | omega) _ | refine Below.setCell ?_ (by first | (simp; done) | (simp; omega) | omega) _ | apply Below.drew | refine Below.trans ?_ (Below.mono (by assumption) (by first | (simp; done) | (simp; omega) | omega)))

set_option maxHeartbeats 1000000 in
theorem refFits_any (s l h o n : Int) (w : World) :
    Calls Try.prog 23 #[.agg #[.int .i64 s, .int .i64 l, .int .i64 h, .int .i64 o], .int .i64 n] w fun e w' => e = .returned (.bool (fitsB s l h o n)) ∧ Below w.heap.size w w' := by
  by_cases h1 : rightB s l h o = true
  · have hb := rightB_iff.1 h1
    have hf : Hid (fitsB s l h o n = decide (1 ≤ n ∧ n ≤ h - l - o)) := by unfold Hid; simp [fitsB, h1]
    by_cases h3 : 1 ≤ n
    · by_cases h5 : n ≤ 4096
      · go_enter Try.func23, Try.ntmps23
        go_wp2_with fail
        (refine (refRight_any _ _ _ _ _).mono ?_); rintro e w1 ⟨rfl, hw1⟩; obtain ⟨hcw1, hfw1⟩ := bcell hw1; (try (simp only [World.size_drew, World.cell?_drew, World.frozen?_drew] at hcw1 hfw1)); have hzw1 := hw1.size; (try (simp only [World.size_alloc, World.size_setCell, World.size_drew] at hzw1)); (try (have hzw1_w_0 : w.heap.size < w1.heap.size := by omega)); (try (have hzw1_w_1 : w.heap.size + 1 < w1.heap.size := by omega)); (try (have hzw1_w_2 : w.heap.size + 1 + 1 < w1.heap.size := by omega)); (try (have hzw1_w_3 : w.heap.size + 1 + 1 + 1 < w1.heap.size := by omega)); (try (have hyw1_w : w.heap.size ≤ w1.heap.size := by omega)); (try (have hyw1_wa : w.heap.size + 1 ≤ w1.heap.size := by omega))
        go_wp2
        go_ret
        refine ⟨ret_bool ?_, ?_⟩
        · rw [hf.out]
          rw [decide_eq_decide]
          omega
        · repeat (first | exact Below.refl _ _ | assumption | refine Below.alloc ?_ (by first | (simp; done) | (simp; omega) | omega) _ | refine Below.setCell ?_ (by first | (simp; done) | (simp; omega) | omega) _ | apply Below.drew | refine Below.trans ?_ (Below.mono (by assumption) (by first | (simp; done) | (simp; omega) | omega)))
      · have h4 : decide (n ≤ 4096) = false := by simpa using h5
        go_enter Try.func23, Try.ntmps23
        go_wp2_with fail
        (refine (refRight_any _ _ _ _ _).mono ?_); rintro e w1 ⟨rfl, hw1⟩; obtain ⟨hcw1, hfw1⟩ := bcell hw1; (try (simp only [World.size_drew, World.cell?_drew, World.frozen?_drew] at hcw1 hfw1)); have hzw1 := hw1.size; (try (simp only [World.size_alloc, World.size_setCell, World.size_drew] at hzw1)); (try (have hzw1_w_0 : w.heap.size < w1.heap.size := by omega)); (try (have hzw1_w_1 : w.heap.size + 1 < w1.heap.size := by omega)); (try (have hzw1_w_2 : w.heap.size + 1 + 1 < w1.heap.size := by omega)); (try (have hzw1_w_3 : w.heap.size + 1 + 1 + 1 < w1.heap.size := by omega)); (try (have hyw1_w : w.heap.size ≤ w1.heap.size := by omega)); (try (have hyw1_wa : w.heap.size + 1 ≤ w1.heap.size := by omega))
        go_wp2
        go_ret
        refine ⟨ret_bool ?_, ?_⟩
        · rw [hf.out]
          simp
          omega
        · repeat (first | exact Below.refl _ _ | assumption | refine Below.alloc ?_ (by first | (simp; done) | (simp; omega) | omega) _ | refine Below.setCell ?_ (by first | (simp; done) | (simp; omega) | omega) _ | apply Below.drew | refine Below.trans ?_ (Below.mono (by assumption) (by first | (simp; done) | (simp; omega) | omega)))
    · have h4 : decide (1 ≤ n) = false := by simpa using h3
      go_enter Try.func23, Try.ntmps23
      go_wp2_with fail
      (refine (refRight_any _ _ _ _ _).mono ?_); rintro e w1 ⟨rfl, hw1⟩; obtain ⟨hcw1, hfw1⟩ := bcell hw1; (try (simp only [World.size_drew, World.cell?_drew, World.frozen?_drew] at hcw1 hfw1)); have hzw1 := hw1.size; (try (simp only [World.size_alloc, World.size_setCell, World.size_drew] at hzw1)); (try (have hzw1_w_0 : w.heap.size < w1.heap.size := by omega)); (try (have hzw1_w_1 : w.heap.size + 1 < w1.heap.size := by omega)); (try (have hzw1_w_2 : w.heap.size + 1 + 1 < w1.heap.size := by omega)); (try (have hzw1_w_3 : w.heap.size + 1 + 1 + 1 < w1.heap.size := by omega)); (try (have hyw1_w : w.heap.size ≤ w1.heap.size := by omega)); (try (have hyw1_wa : w.heap.size + 1 ≤ w1.heap.size := by omega))
      go_wp2
      go_ret
      refine ⟨ret_bool ?_, ?_⟩
      · rw [hf.out]
        simp
        omega
      · repeat (first | exact Below.refl _ _ | assumption | refine Below.alloc ?_ (by first | (simp; done) | (simp; omega) | omega) _ | refine Below.setCell ?_ (by first | (simp; done) | (simp; omega) | omega) _ | apply Below.drew | refine Below.trans ?_ (Below.mono (by assumption) (by first | (simp; done) | (simp; omega) | omega)))
  · have h2 : rightB s l h o = false := by simpa using h1
    go_enter Try.func23, Try.ntmps23
    go_wp2_with fail
    (refine (refRight_any _ _ _ _ _).mono ?_); rintro e w1 ⟨rfl, hw1⟩; obtain ⟨hcw1, hfw1⟩ := bcell hw1; (try (simp only [World.size_drew, World.cell?_drew, World.frozen?_drew] at hcw1 hfw1)); have hzw1 := hw1.size; (try (simp only [World.size_alloc, World.size_setCell, World.size_drew] at hzw1)); (try (have hzw1_w_0 : w.heap.size < w1.heap.size := by omega)); (try (have hzw1_w_1 : w.heap.size + 1 < w1.heap.size := by omega)); (try (have hzw1_w_2 : w.heap.size + 1 + 1 < w1.heap.size := by omega)); (try (have hzw1_w_3 : w.heap.size + 1 + 1 + 1 < w1.heap.size := by omega)); (try (have hyw1_w : w.heap.size ≤ w1.heap.size := by omega)); (try (have hyw1_wa : w.heap.size + 1 ≤ w1.heap.size := by omega))
    go_wp2
    go_ret
    refine ⟨ret_bool ?_, ?_⟩
    · simp [fitsB, h2]
    · repeat (first | exact Below.refl _ _ | assumption | refine Below.alloc ?_ (by first | (simp; done) | (simp; omega) | omega) _ | refine Below.setCell ?_ (by first | (simp; done) | (simp; omega) | omega) _ | apply Below.drew | refine Below.trans ?_ (Below.mono (by assumption) (by first | (simp; done) | (simp; omega) | omega)))
end Go.Proofs.Ytnnllhlcpmmcaaa
