/- The walk of package arena: an access done, kind 3. -/
import Derived.Test.YtnnllhlcpmmcaaaArC
namespace Go.Proofs.Ytnnllhlcpmmcaaa
set_option linter.unusedVariables false
set_option linter.unusedSimpArgs false
open Go.RowKit

set_option maxHeartbeats 8000000 in
theorem do_casyes (g h n : Nat) (xs : Nat → Int) (i : Nat) (o v : Int) (hi : i < n) (hx : xs i = o) (w : World) (H : IsAr w g h n xs) :
    Calls Try.prog 24 #[.pointer (some ⟨g, 0, none⟩), .agg #[.int .i64 3, .int .i64 i, .int .u64 o, .int .u64 v]] w fun e w' => e = .returned (.tuple #[.int .u64 (xs i), .int .i64 0]) ∧ ArTo w w' g h n (upd xs i v) := by
  have HH := hide H
  have HX := hide hx
  clear hx
  have hq : Hid (chkE 3 i o v = 0) := by unfold Hid; simp [chkE, accB]
  have b0 : (0 : Int) ≤ (i : Int) := by omega
  have b1 : (i : Int) < (n : Int) := by omega
  have b2 : ¬ ((i : Int) < 0) := by omega
  have b3 : ¬ ((n : Int) ≤ (i : Int)) := by omega
  obtain ⟨h1, h2, h3, h4, h5, h6⟩ := H
  have h21 : g ≤ w.heap.size := Nat.le_of_lt h2
  clear h6
  go_enter Try.func24, Try.ntmps24
  go_wp2_with fail
  have c := check_any 3 i o v
  rw [hq.out] at c
  (refine (c _).mono ?_); rintro e w1 ⟨rfl, hw1⟩; obtain ⟨hcw1, hfw1⟩ := bcell hw1; (try (simp only [World.size_drew, World.cell?_drew, World.frozen?_drew] at hcw1 hfw1)); have hzw1 := hw1.size; (try (simp only [World.size_alloc, World.size_setCell, World.size_drew] at hzw1)); (try (have hzw1_w_0 : w.heap.size < w1.heap.size := by omega)); (try (have hzw1_w_1 : w.heap.size + 1 < w1.heap.size := by omega)); (try (have hzw1_w_2 : w.heap.size + 1 + 1 < w1.heap.size := by omega)); (try (have hzw1_w_3 : w.heap.size + 1 + 1 + 1 < w1.heap.size := by omega)); (try (have hyw1_w : w.heap.size ≤ w1.heap.size := by omega)); (try (have hyw1_wa : w.heap.size + 1 ≤ w1.heap.size := by omega))
  clear c
  (have hbw1 : g < w1.heap.size := by omega); (have hblw1 : g ≤ w1.heap.size := by omega)
  go_wp2_with fail
  have H1 : IsAr w1 g h n xs := (unhide HH).keep (by repeat (first | exact Below.refl _ _ | assumption | refine Below.alloc ?_ (by first | (simp; done) | (simp; omega) | omega) _ | refine Below.setCell ?_ (by first | (simp; done) | (simp; omega) | omega) _ | apply Below.drew | refine Below.trans ?_ (Below.mono (by assumption) (by first | (simp; done) | (simp; omega) | omega))))
  (refine (none_any g h n xs _ H1).mono ?_); rintro e w2 ⟨rfl, hw2⟩; obtain ⟨hcw2, hfw2⟩ := bcell hw2; (try (simp only [World.size_drew, World.cell?_drew, World.frozen?_drew] at hcw2 hfw2)); have hzw2 := hw2.size; (try (simp only [World.size_alloc, World.size_setCell, World.size_drew] at hzw2)); (try (have hzw2_w_0 : w.heap.size < w2.heap.size := by omega)); (try (have hzw2_w_1 : w.heap.size + 1 < w2.heap.size := by omega)); (try (have hzw2_w_2 : w.heap.size + 1 + 1 < w2.heap.size := by omega)); (try (have hzw2_w_3 : w.heap.size + 1 + 1 + 1 < w2.heap.size := by omega)); (try (have hyw2_w : w.heap.size ≤ w2.heap.size := by omega)); (try (have hyw2_wa : w.heap.size + 1 ≤ w2.heap.size := by omega)); (try (have hzw2_w1_0 : w1.heap.size < w2.heap.size := by omega)); (try (have hzw2_w1_1 : w1.heap.size + 1 < w2.heap.size := by omega)); (try (have hzw2_w1_2 : w1.heap.size + 1 + 1 < w2.heap.size := by omega)); (try (have hzw2_w1_3 : w1.heap.size + 1 + 1 + 1 < w2.heap.size := by omega)); (try (have hyw2_w1 : w1.heap.size ≤ w2.heap.size := by omega)); (try (have hyw2_w1a : w1.heap.size + 1 ≤ w2.heap.size := by omega))
  (have hbw2 : g < w2.heap.size := by omega); (have hblw2 : g ≤ w2.heap.size := by omega)
  have H2 := hide (H1.keep hw2)
  have B2 : Below w.heap.size w w2 := by repeat (first | exact Below.refl _ _ | assumption | refine Below.alloc ?_ (by first | (simp; done) | (simp; omega) | omega) _ | refine Below.setCell ?_ (by first | (simp; done) | (simp; omega) | omega) _ | apply Below.drew | refine Below.trans ?_ (Below.mono (by assumption) (by first | (simp; done) | (simp; omega) | omega)))
  clear H1
  go_wp2
  have f0 : w2.cell? ⟨w.heap.size, 0, none⟩ = some (.int .i64 3) := by go_simp
  have f1 : w2.cell? ⟨w.heap.size, 1, none⟩ = some (.int .i64 i) := by go_simp
  have f2 : w2.cell? ⟨w.heap.size, 2, none⟩ = some (.int .u64 o) := by go_simp
  have f3 : w2.cell? ⟨w.heap.size, 3, none⟩ = some (.int .u64 v) := by go_simp
  have fg : w2.cell? ⟨g, 0, none⟩ = some (.slice (some ⟨h, 0, none⟩) n n) := by go_simp
  clear hcw1 hfw1 hcw2 hfw2 h1
  go_region
  all_goals
    go_wp2
  all_goals
    go_region
  all_goals
    go_wp2
  all_goals
    go_region_with ((go_at_call 52; refine (cas_yes g h n xs 3 i o v hi (unhide HX) _ ((unhide H2).keep (by repeat (first | exact Below.refl _ _ | assumption | refine Below.alloc ?_ (by first | (simp; done) | (simp; omega) | omega) _ | refine Below.setCell ?_ (by first | (simp; done) | (simp; omega) | omega) _ | apply Below.drew | refine Below.trans ?_ (Below.mono (by assumption) (by first | (simp; done) | (simp; omega) | omega)))))).mono ?_; rintro e w5 ⟨rfl, hw5⟩))
  all_goals
    go_wp2
  all_goals
    go_ret2
    refine ⟨rfl, ?_⟩
    exact ArTo.after (by repeat (first | exact Below.refl _ _ | assumption | refine Below.alloc ?_ (by first | (simp; done) | (simp; omega) | omega) _ | refine Below.setCell ?_ (by first | (simp; done) | (simp; omega) | omega) _ | apply Below.drew | refine Below.trans ?_ (Below.mono (by assumption) (by first | (simp; done) | (simp; omega) | omega)))) hw5
end Go.Proofs.Ytnnllhlcpmmcaaa
