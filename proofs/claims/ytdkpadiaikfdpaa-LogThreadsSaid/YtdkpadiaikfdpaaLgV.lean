/- The arguments of package log's laws opened. -/
import Derived.Test.YtdkpadiaikfdpaaLgA
import Derived.Test.YtdkpadiaikfdpaaLgB
import Derived.Test.YtdkpadiaikfdpaaOp
namespace Go.Proofs.Ytdkpadiaikfdpaa
set_option linter.unusedVariables false
set_option linter.unusedSimpArgs false
open Go.RowKit

theorem StOk.of_row {w : World} {n : Nat} {A : Option Addr} {len cap : Nat} (h : RowOk w n [.int .i64, .int .i64, .int .i64, .int .u64, .int .u64, .int .u64] A len cap) :
    ∃ st, StOk w A len st ∧ ∀ i, i < len → (Lit.int .i64 (st i 0)).wf = true ∧ (Lit.int .i64 (st i 1)).wf = true ∧ (Lit.int .i64 (st i 2)).wf = true ∧ (Lit.int .u64 (st i 3)).wf = true ∧ (Lit.int .u64 (st i 4)).wf = true ∧ (Lit.int .u64 (st i 5)).wf = true := by
  obtain ⟨b, o, z, hA, hc⟩ := h.intN [.i64, .i64, .i64, .u64, .u64, .u64]
  refine ⟨z, fun hl => ⟨b, o, (hA hl).1, (hA hl).2, fun i hi => ?_⟩, fun i hi => ?_⟩
  · exact ⟨(hc i hi 0 .i64 rfl).1, (hc i hi 1 .i64 rfl).1, (hc i hi 2 .i64 rfl).1, (hc i hi 3 .u64 rfl).1, (hc i hi 4 .u64 rfl).1, (hc i hi 5 .u64 rfl).1⟩
  · exact ⟨(hc i hi 0 .i64 rfl).2, (hc i hi 1 .i64 rfl).2, (hc i hi 2 .i64 rfl).2, (hc i hi 3 .u64 rfl).2, (hc i hi 4 .u64 rfl).2, (hc i hi 5 .u64 rfl).2⟩

theorem same13_self (A B : Option Addr) (c d : Nat) (L : List Int) (hn : L.length ≤ 1000) (w : World) (H1 : RdL w .i64 A L) (H2 : RdL w .i64 B L) :
    Calls Try.prog 18 #[.slice A L.length c, .slice B L.length d] w fun e w' => e = .returned (.bool true) ∧ Below w.heap.size w w' := by
  have q := same13_any A B c d L L hn hn w H1 H2
  simpa using q
end Go.Proofs.Ytdkpadiaikfdpaa
