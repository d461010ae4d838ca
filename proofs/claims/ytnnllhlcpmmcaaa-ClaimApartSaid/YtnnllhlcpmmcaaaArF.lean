/- The walks of package arena: a word loaded, stored, compared and swapped by number; the law package's own rows. -/
import Derived.Test.YtnnllhlcpmmcaaaArE
namespace Go.Proofs.Ytnnllhlcpmmcaaa
set_option linter.unusedVariables false
set_option linter.unusedSimpArgs false
open Go.RowKit

set_option maxHeartbeats 2000000 in
theorem st_any (g h n : Nat) (xs : Nat → Int) (a v : Int) (w : World) (H : IsAr w g h n xs) :
    Calls Try.prog 33 #[.pointer (some ⟨g, 0, none⟩), .int .i64 a, .int .u64 v] w fun e w' => e = .returned (.int .i64 (doE n 2 a 0 v)) ∧ ArTo w w' g h n (doX n xs 2 a 0 v) := by
  have c := do_any g h n xs 2 a 0 v w H
  go_enter Try.func33, Try.ntmps33
  go_wp2_with fail
  refine c.mono ?_
  rintro e w1 ⟨rfl, h1⟩
  go_wp2
  go_ret
  exact ⟨rfl, h1⟩

set_option maxHeartbeats 2000000 in
theorem len_any (g h n : Nat) (xs : Nat → Int) (w : World) (H : IsAr w g h n xs) :
    Calls Try.prog 55 #[.pointer (some ⟨g, 0, none⟩)] w fun e w' => e = .returned (.int .i64 n) ∧ Below w.heap.size w w' := by
  have HH := hide H
  obtain ⟨h1, h2, h3, h4, h5, h6⟩ := H
  clear h6
  go_enter Try.func55, Try.ntmps55
  go_wp2_with fail
  (refine (none_any g h n xs _ (unhide HH)).mono ?_); rintro e w1 ⟨rfl, hw1⟩; obtain ⟨hcw1, hfw1⟩ := bcell hw1; (try (simp only [World.size_drew, World.cell?_drew, World.frozen?_drew] at hcw1 hfw1)); have hzw1 := hw1.size; (try (simp only [World.size_alloc, World.size_setCell, World.size_drew] at hzw1)); (try (have hzw1_w_0 : w.heap.size < w1.heap.size := by omega)); (try (have hzw1_w_1 : w.heap.size + 1 < w1.heap.size := by omega)); (try (have hzw1_w_2 : w.heap.size + 1 + 1 < w1.heap.size := by omega)); (try (have hzw1_w_3 : w.heap.size + 1 + 1 + 1 < w1.heap.size := by omega)); (try (have hyw1_w : w.heap.size ≤ w1.heap.size := by omega)); (try (have hyw1_wa : w.heap.size + 1 ≤ w1.heap.size := by omega))
  (have hbw1 : g < w1.heap.size := by omega); (have hblw1 : g ≤ w1.heap.size := by omega)
  go_wp2
  go_ret
  exact ⟨rfl, by repeat (first | exact Below.refl _ _ | assumption | refine Below.alloc ?_ (by first | (simp; done) | (simp; omega) | omega) _ | refine Below.setCell ?_ (by first | (simp; done) | (simp; omega) | omega) _ | apply Below.drew | refine Below.trans ?_ (Below.mono (by assumption) (by first | (simp; done) | (simp; omega) | omega)))⟩

theorem c5_new (W : World) : Calls Try.prog 44 #[.int .i64 3] W fun e w' => ∃ g h, e = .returned (.tuple #[.pointer (some ⟨g, 0, none⟩), .int .i64 0]) ∧ Below W.heap.size W w' ∧ W.heap.size ≤ g ∧ W.heap.size ≤ h ∧ IsAr w' g h 3 (fun _ => 0) :=
  new_yes 3 (by omega) (by omega) W

theorem below_grown {w A B : World} {row : Nat} (hb : Below w.heap.size w A) (hg : A.grownBy B (some row)) (hr : w.heap.size ≤ row) : Below w.heap.size w B :=
  hb.grown hg hb.size (fun k e => by cases e; exact hr)

end Go.Proofs.Ytnnllhlcpmmcaaa
