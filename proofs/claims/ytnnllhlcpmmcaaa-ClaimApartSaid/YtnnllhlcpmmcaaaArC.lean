/- The walks of package arena: an access done. -/
import Derived.Test.YtnnllhlcpmmcaaaArB
import Derived.Laws.EntriesVeiled
namespace Go.Proofs.Ytnnllhlcpmmcaaa
set_option linter.unusedVariables false
set_option linter.unusedSimpArgs false
open Go.RowKit

def doE (n : Nat) (k a o v : Int) : Int := if accB k a o v then (if k = 0 then 0 else if a < 0 ∨ (n : Int) ≤ a then 4 else 0) else 2
def doA (n : Nat) (xs : Nat → Int) (k a o v : Int) : Int := if doE n k a o v = 0 ∧ (k = 1 ∨ k = 3) then xs a.toNat else 0
def doX (n : Nat) (xs : Nat → Int) (k a o v : Int) : Nat → Int := if doE n k a o v = 0 ∧ (k = 2 ∨ (k = 3 ∧ xs a.toNat = o)) then upd xs a.toNat v else xs

theorem accB_iff {k a o v : Int} : accB k a o v = true ↔ (0 ≤ k ∧ k ≤ 3 ∧ (k = 0 → a = 0) ∧ (k < 3 → o = 0) ∧ (k < 2 → v = 0)) := by
  unfold accB
  exact decide_eq_true_iff




theorem ArTo.after {w W w' : World} {g h n : Nat} {ys : Nat → Int} (hb : Below w.heap.size w W) (k : ArTo W w' g h n ys) : ArTo w w' g h n ys :=
  ⟨grown_trans (grown_below hb _) k.1, k.2⟩
end Go.Proofs.Ytnnllhlcpmmcaaa
