/- The walks of package arena, and of its reference: an arena made, and of given words; its length. -/
import Derived.Test.YtnnllhlcpmmcaaaArC
import Derived.Deep.WholeRow
namespace Go.Proofs.Ytnnllhlcpmmcaaa
set_option linter.unusedVariables false
set_option linter.unusedSimpArgs false
open Go.RowKit

theorem chk2 {k a o v : Int} (h : ¬ (0 ≤ k ∧ k ≤ 3 ∧ (k = 0 → a = 0) ∧ (k < 3 → o = 0) ∧ (k < 2 → v = 0))) : chkE k a o v = 2 := by
  have : accB k a o v = false := by simpa only [accB, decide_eq_false_iff_not] using h
  simp [chkE, this]

set_option maxHeartbeats 2000000 in
theorem new_no (n : Int) (hn : ¬ (1 ≤ n ∧ n ≤ 16384)) (w : World) :
    Calls Try.prog 44 #[.int .i64 n] w fun e w' => e = .returned (.tuple #[.pointer none, .int .i64 2]) ∧ Below w.heap.size w w' := by
  by_cases h1 : n < 1
  · go_enter Try.func44, Try.ntmps44
    go_wp2
    go_ret2
    exact ⟨rfl, by repeat (first | exact Below.refl _ _ | assumption | refine Below.alloc ?_ (by first | (simp; done) | (simp; omega) | omega) _ | refine Below.setCell ?_ (by first | (simp; done) | (simp; omega) | omega) _ | apply Below.drew | refine Below.trans ?_ (Below.mono (by assumption) (by first | (simp; done) | (simp; omega) | omega)))⟩
  · go_enter Try.func44, Try.ntmps44
    go_wp2
    go_ret2
    exact ⟨rfl, by repeat (first | exact Below.refl _ _ | assumption | refine Below.alloc ?_ (by first | (simp; done) | (simp; omega) | omega) _ | refine Below.setCell ?_ (by first | (simp; done) | (simp; omega) | omega) _ | apply Below.drew | refine Below.trans ?_ (Below.mono (by assumption) (by first | (simp; done) | (simp; omega) | omega)))⟩

theorem info_u64 : (Try.prog.info? 36).map (fun i => (i.zero, i.size, i.bytes)) = some (some (.int .u64 0), 1, 8) := by kernel_rfl

set_option maxHeartbeats 2000000 in
theorem new_yes (n : Nat) (h1 : 1 ≤ n) (h2 : n ≤ 16384) (w : World) :
    Calls Try.prog 44 #[.int .i64 n] w fun e w' => ∃ g h, e = .returned (.tuple #[.pointer (some ⟨g, 0, none⟩), .int .i64 0]) ∧ Below w.heap.size w w' ∧ w.heap.size ≤ g ∧ w.heap.size ≤ h ∧ IsAr w' g h n (fun _ => 0) := by
  obtain ⟨i0, hi, hz0, hz1, hz2⟩ := info_parts info_u64
  have hmk := fun W => run_make_rowN (P := Try.prog) 27 36 i0 _ Try.underlying27 hi hz0 .i64 .i64 n n (Nat.le_refl _) (by rw [hz2]; omega) (by omega) W
  rw [hz1] at hmk
  clear hi hz0 hz1 hz2
  go_enter Try.func44, Try.ntmps44
  go_wp2
  go_ret2
  refine ⟨w.heap.size + 1, w.heap.size, rfl, by repeat (first | exact Below.refl _ _ | assumption | refine Below.alloc ?_ (by first | (simp; done) | (simp; omega) | omega) _ | refine Below.setCell ?_ (by first | (simp; done) | (simp; omega) | omega) _ | apply Below.drew | refine Below.trans ?_ (Below.mono (by assumption) (by first | (simp; done) | (simp; omega) | omega))), by omega, Nat.le_refl _, ?_⟩
  refine ⟨by simp, by simp, by simp; omega, by omega, ⟨h1, h2⟩, fun i hi => ⟨?_, by simp⟩⟩
  rw [World.cell?_alloc_lt _ _ _ (by simp)]
  simp only [Nat.mul_one]
  exact made_cell _ _ _ _ _ hi
end Go.Proofs.Ytnnllhlcpmmcaaa
