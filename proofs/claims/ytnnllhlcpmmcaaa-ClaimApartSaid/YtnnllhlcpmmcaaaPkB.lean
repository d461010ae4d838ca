/- The walks of package pack, and of its reference: requests. -/
import Derived.Test.YtnnllhlcpmmcaaaPkA
namespace Go.Proofs.Ytnnllhlcpmmcaaa
set_option linter.unusedVariables false
set_option linter.unusedSimpArgs false
open Go.RowKit

def reqB (ep ph : Int) : Bool := inB 1099511627775 [ep] && inB 6 [ph]
def reqW (ep ph : Int) : Int := if reqB ep ph then 8 * ep + ph else 0
def reqE (ep ph : Int) : Int := if reqB ep ph then 0 else 2
def ofReqB (w : Int) : Bool := reqB (w / 8) (w % 8)

theorem or_8 (ep ph : Int) (h0 : 0 ≤ ep) (h1 : ep ≤ 1099511627775) (h2 : 0 ≤ ph) (h3 : ph ≤ 6) : bits .or .u64 (ep * 8) ph = 8 * ep + ph := by
  rw [u64_or _ _ (by omega) (by omega) (by omega) (by omega), nat_join 3 _ _ (by omega) (by omega)]
  omega

theorem reqB_iff {ep ph : Int} : reqB ep ph = true ↔ (0 ≤ ep ∧ ep ≤ 1099511627775) ∧ (0 ≤ ph ∧ ph ≤ 6) := by
  simp only [reqB, Bool.and_eq_true, inB1_iff]

end Go.Proofs.Ytnnllhlcpmmcaaa
