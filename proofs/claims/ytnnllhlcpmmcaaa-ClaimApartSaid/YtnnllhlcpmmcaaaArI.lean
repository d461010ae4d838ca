/- The walks of package arena's laws: has an arena just these words? -/
import Derived.Test.YtnnllhlcpmmcaaaArG
import Derived.Test.YtnnllhlcpmmcaaaFe
namespace Go.Proofs.Ytnnllhlcpmmcaaa
set_option linter.unusedVariables false
set_option linter.unusedSimpArgs false
open Go.RowKit Go.Shelf

attribute [local go_sem] Oper.semAt_some

@[local go_sem] theorem eql_all (w : World) (f : Fn) (c a : Array Value) : (binOp .eql 110 (.func f c a) .nilFunc).run Try.prog w = .ok (.bool false) w := run_eql_func_nil w f c a (by kernel_rfl)

end Go.Proofs.Ytnnllhlcpmmcaaa
