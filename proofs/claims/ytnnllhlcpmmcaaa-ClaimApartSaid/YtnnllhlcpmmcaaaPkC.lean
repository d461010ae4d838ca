/- The walks of package pack, and of its reference: requests of words. -/
import Derived.Test.YtnnllhlcpmmcaaaPkB
namespace Go.Proofs.Ytnnllhlcpmmcaaa
set_option linter.unusedVariables false
set_option linter.unusedSimpArgs false
open Go.RowKit

def ofReqEp (w : Int) : Int := if ofReqB w then w / 8 else 0
def ofReqPh (w : Int) : Int := if ofReqB w then w % 8 else 0
def ofReqE (w : Int) : Int := if ofReqB w then 0 else 2

theorem and_7 (x : Int) (h0 : 0 ≤ x) (h1 : x ≤ 18446744073709551615) : wrap64 (bits .and .u64 x 7) = x % 8 := by
  rw [u64_and _ _ (by omega) (by omega) (by omega) (by omega)]
  have : x.toNat &&& (7 : Int).toNat = x.toNat % 8 := nat_mask3 _
  rw [this, IntWalk.wrap64_in _ (by omega)]
  omega

theorem ofReqB_iff {x : Int} : ofReqB x = true ↔ (0 ≤ x / 8 ∧ x / 8 ≤ 1099511627775) ∧ (0 ≤ x % 8 ∧ x % 8 ≤ 6) := reqB_iff

end Go.Proofs.Ytnnllhlcpmmcaaa
