/- The walk of Unlike at a nil arena. -/
import Derived.Test.YtlhpphlfgjopbaaArK
import Derived.Deep.QuietTactic
import Derived.BigQuiet
namespace Go.Proofs.Ytlhpphlfgjopbaa
set_option linter.unusedVariables false
set_option linter.unusedSimpArgs false
open Go.RowKit

theorem none_quiet (w : World) : Calls Try.prog 31 #[.pointer none] w fun e w' => e = .returned (.bool true) ∧ w' = w := by
  go_enter Try.func31, Try.ntmps31
  go_wp2
  go_ret
  exact ⟨rfl, rfl⟩

set_option maxHeartbeats 2000000 in
theorem unlike_nil (q : Value) (w : World) :
    Calls Try.prog 29 #[.pointer none, q] w fun e w' => e = .returned (.slice none 0 0) ∧ Below w.heap.size w w' := by
  go_enter Try.func29, Try.ntmps29
  go_wp2_with fail
  go_quiet ((go_at_call 31; exact Calls.quiet_of_same (none_quiet _)))
  all_goals go_wp2
  all_goals go_ret
  all_goals exact ⟨rfl, by first | exact below_drewN (Below.refl _ _) _ | (repeat (first | exact Below.refl _ _ | assumption | refine Below.alloc ?_ (by first | (simp; done) | (simp; omega) | omega) _ | refine Below.setCell ?_ (by first | (simp; done) | (simp; omega) | omega) _ | apply Below.drew | refine Below.trans ?_ (Below.mono (by assumption) (by first | (simp; done) | (simp; omega) | omega))); done)⟩
end Go.Proofs.Ytlhpphlfgjopbaa
