/-
  No cell of these rows narrows 'for every input' (looked for: loops, veiled, ifaces, maps, wideKeys, modest, calm, conditions, laid).
  DERIVED. THE GIVEN ROWS OF THIS SEAT. 7 by the template 'for every input the law returns true; each argument reads behind the call as it read before'; 0 by the template 'total and deterministic' (their statements: YtbkaopeajjechaaTotals.lean).
  GIVEN WITH THE SEED: the statements are not yours to turn. If you find one false, say at which input.
  Laid BY PROGRAM, IN A SANDBOX (cutbox-rows.mjs): the forced cells as the released guide's own fill.sh prints them over the translation 2bc93fd07e8af259… (all of the seat's roots in one cut). By AI agents, Wed Nov 11 2026. No macro, syntax, notation, axiom, sorry.
-/
import Derived.Test.YtbkaopeajjechaaChecked
import GoSem.Claim
import GoSem.ClaimJoined
import GoSem.ClaimMapViews
import Derived.JoinedTies
import Derived.KernelRfl
namespace Go.Proofs.Ytbkaopeajjechaa
/- THE CELL 'sum', in the pinned program and in every row, IS THE sha256 OF THE DUMP (.gsa) THAT YtbkaopeajjechaaProg.lean LOADS. Nothing in Lean hashes anything: it is a label: what it is worth is what the hold of that sum in a sandbox is worth. -/
noncomputable def Try.pinned : Pinned := { name := "ytbkaopeajjechaa", sum := "2bc93fd07e8af2593575cd5dce95a695e4fa3f6ae4518f5bad58b28671c7590d", checked := Try.checked }
namespace Rows
def none {H : Type} : Left H := { results := [], args := [] }

/-- 'lapidarylaw09.GraphHolds': WHATEVER THE INPUT: true; the input reads as it did. -/
def graphHoldsSpec : ChangeSpec := { name := "graphHolds", fn := fun _ => fun
  | [d1, d2, d3] => { results := [.lit (.bool true)], args := [d1, d2, d3] }
  | _ => none }
def graphHoldsRow : OpenClaim := { program := "ytbkaopeajjechaa", sum := "2bc93fd07e8af2593575cd5dce95a695e4fa3f6ae4518f5bad58b28671c7590d", func := "lapidary/lapidarylaw09.GraphHolds", spec := "graphHolds", unfollowed := true, recurses := true, apart := false }
def GraphHoldsSaid : Prop := graphHoldsRow.holds Try.pinned (OpenSpec.ofChange graphHoldsSpec)

/-- ITS FALSE NEIGHBOUR: 'it returns false'. Refute it at one input. -/
def graphHoldsWrong : ChangeSpec := { name := "graphHolds", fn := fun _ => fun
  | [d1, d2, d3] => { results := [.lit (.bool false)], args := [d1, d2, d3] }
  | _ => none }
def GraphHoldsWrongFalsely : Prop := graphHoldsRow.holds Try.pinned (OpenSpec.ofChange graphHoldsWrong)

/-- 'lapidarylaw09.GraphPlay': WHATEVER THE INPUT: true; the input reads as it did. -/
def graphPlaySpec : ChangeSpec := { name := "graphPlay", fn := fun _ => fun
  | [d1, d2] => { results := [.lit (.bool true)], args := [d1, d2] }
  | _ => none }
def graphPlayRow : OpenClaim := { program := "ytbkaopeajjechaa", sum := "2bc93fd07e8af2593575cd5dce95a695e4fa3f6ae4518f5bad58b28671c7590d", func := "lapidary/lapidarylaw09.GraphPlay", spec := "graphPlay", unfollowed := true, recurses := true, apart := false }
def GraphPlaySaid : Prop := graphPlayRow.holds Try.pinned (OpenSpec.ofChange graphPlaySpec)

/-- ITS FALSE NEIGHBOUR: 'it returns false'. Refute it at one input. -/
def graphPlayWrong : ChangeSpec := { name := "graphPlay", fn := fun _ => fun
  | [d1, d2] => { results := [.lit (.bool false)], args := [d1, d2] }
  | _ => none }
def GraphPlayWrongFalsely : Prop := graphPlayRow.holds Try.pinned (OpenSpec.ofChange graphPlayWrong)

/-- 'lapidarylaw09.GraphViews': WHATEVER THE INPUT: true; the input reads as it did. -/
def graphViewsSpec : ChangeSpec := { name := "graphViews", fn := fun _ => fun
  | [d1, d2] => { results := [.lit (.bool true)], args := [d1, d2] }
  | _ => none }
def graphViewsRow : OpenClaim := { program := "ytbkaopeajjechaa", sum := "2bc93fd07e8af2593575cd5dce95a695e4fa3f6ae4518f5bad58b28671c7590d", func := "lapidary/lapidarylaw09.GraphViews", spec := "graphViews", unfollowed := true, recurses := true, apart := false }
def GraphViewsSaid : Prop := graphViewsRow.holds Try.pinned (OpenSpec.ofChange graphViewsSpec)

/-- ITS FALSE NEIGHBOUR: 'it returns false'. Refute it at one input. -/
def graphViewsWrong : ChangeSpec := { name := "graphViews", fn := fun _ => fun
  | [d1, d2] => { results := [.lit (.bool false)], args := [d1, d2] }
  | _ => none }
def GraphViewsWrongFalsely : Prop := graphViewsRow.holds Try.pinned (OpenSpec.ofChange graphViewsWrong)

/-- 'lapidarylaw09.GraphRefuses': WHATEVER THE INPUT: true; the input reads as it did. -/
def graphRefusesSpec : ChangeSpec := { name := "graphRefuses", fn := fun _ => fun
  | [d1, d2] => { results := [.lit (.bool true)], args := [d1, d2] }
  | _ => none }
def graphRefusesRow : OpenClaim := { program := "ytbkaopeajjechaa", sum := "2bc93fd07e8af2593575cd5dce95a695e4fa3f6ae4518f5bad58b28671c7590d", func := "lapidary/lapidarylaw09.GraphRefuses", spec := "graphRefuses", unfollowed := true, recurses := true, apart := false }
def GraphRefusesSaid : Prop := graphRefusesRow.holds Try.pinned (OpenSpec.ofChange graphRefusesSpec)

/-- ITS FALSE NEIGHBOUR: 'it returns false'. Refute it at one input. -/
def graphRefusesWrong : ChangeSpec := { name := "graphRefuses", fn := fun _ => fun
  | [d1, d2] => { results := [.lit (.bool false)], args := [d1, d2] }
  | _ => none }
def GraphRefusesWrongFalsely : Prop := graphRefusesRow.holds Try.pinned (OpenSpec.ofChange graphRefusesWrong)

/-- 'lapidarylaw09.GraphCopies': WHATEVER THE INPUT: true; the input reads as it did. -/
def graphCopiesSpec : ChangeSpec := { name := "graphCopies", fn := fun _ => fun
  | [d1, d2, d3] => { results := [.lit (.bool true)], args := [d1, d2, d3] }
  | _ => none }
def graphCopiesRow : OpenClaim := { program := "ytbkaopeajjechaa", sum := "2bc93fd07e8af2593575cd5dce95a695e4fa3f6ae4518f5bad58b28671c7590d", func := "lapidary/lapidarylaw09.GraphCopies", spec := "graphCopies", unfollowed := true, recurses := true, apart := false }
def GraphCopiesSaid : Prop := graphCopiesRow.holds Try.pinned (OpenSpec.ofChange graphCopiesSpec)

/-- ITS FALSE NEIGHBOUR: 'it returns false'. Refute it at one input. -/
def graphCopiesWrong : ChangeSpec := { name := "graphCopies", fn := fun _ => fun
  | [d1, d2, d3] => { results := [.lit (.bool false)], args := [d1, d2, d3] }
  | _ => none }
def GraphCopiesWrongFalsely : Prop := graphCopiesRow.holds Try.pinned (OpenSpec.ofChange graphCopiesWrong)

/-- 'lapidarylaw09.GraphNil': WHATEVER THE INPUT: true; the input reads as it did. -/
def graphNilSpec : ChangeSpec := { name := "graphNil", fn := fun _ => fun
  | [d] => { results := [.lit (.bool true)], args := [d] }
  | _ => none }
def graphNilRow : OpenClaim := { program := "ytbkaopeajjechaa", sum := "2bc93fd07e8af2593575cd5dce95a695e4fa3f6ae4518f5bad58b28671c7590d", func := "lapidary/lapidarylaw09.GraphNil", spec := "graphNil", unfollowed := true, recurses := true, apart := false }
def GraphNilSaid : Prop := graphNilRow.holds Try.pinned (OpenSpec.ofChange graphNilSpec)

/-- ITS FALSE NEIGHBOUR: 'it returns false'. Refute it at one input. -/
def graphNilWrong : ChangeSpec := { name := "graphNil", fn := fun _ => fun
  | [d] => { results := [.lit (.bool false)], args := [d] }
  | _ => none }
def GraphNilWrongFalsely : Prop := graphNilRow.holds Try.pinned (OpenSpec.ofChange graphNilWrong)

/-- 'lapidarylaw09.GraphSwaps': WHATEVER THE INPUT: true; the input reads as it did. -/
def graphSwapsSpec : ChangeSpec := { name := "graphSwaps", fn := fun _ => fun
  | [d1, d2, d3, d4] => { results := [.lit (.bool true)], args := [d1, d2, d3, d4] }
  | _ => none }
def graphSwapsRow : OpenClaim := { program := "ytbkaopeajjechaa", sum := "2bc93fd07e8af2593575cd5dce95a695e4fa3f6ae4518f5bad58b28671c7590d", func := "lapidary/lapidarylaw09.GraphSwaps", spec := "graphSwaps", unfollowed := true, recurses := true, apart := false }
def GraphSwapsSaid : Prop := graphSwapsRow.holds Try.pinned (OpenSpec.ofChange graphSwapsSpec)

/-- ITS FALSE NEIGHBOUR: 'it returns false'. Refute it at one input. -/
def graphSwapsWrong : ChangeSpec := { name := "graphSwaps", fn := fun _ => fun
  | [d1, d2, d3, d4] => { results := [.lit (.bool false)], args := [d1, d2, d3, d4] }
  | _ => none }
def GraphSwapsWrongFalsely : Prop := graphSwapsRow.holds Try.pinned (OpenSpec.ofChange graphSwapsWrong)

/- THE SECOND FORM. 'bulk': how many values and letters a reading holds, each counted each time it is reached (what is shared counts as often as it is met; a slice's spare places count too). A statement '..UptoSaid' is the law's where the arguments, and the package variables that the reading takes, are together of bulk at most 1048576: NARROWER than '..Said'. Prove '..Said' where nothing that the law and all that it calls make is longer than what came in: it says more and counts as full. Else prove '..UptoSaid'. A law counts once. -/
mutual
def uptoBulk {H : Type} : DataW H → Nat
  | .lit (.string bytes) => bytes.length + 1
  | .lit _ => 1
  | .nil => 1
  | .ptr d => uptoBulk d + 1
  | .slice elems spare => uptoBulkAll elems + uptoBulkAll spare + 1
  | .agg parts => uptoBulkAll parts + 1
  | .iface _ d => uptoBulk d + 1
  | .map entries => uptoBulkEntries entries + 1
  | .held _ => 1
def uptoBulkAll {H : Type} : List (DataW H) → Nat
  | [] => 0
  | d :: r => uptoBulk d + uptoBulkAll r
def uptoBulkEntries {H : Type} : List (Lit × DataW H) → Nat
  | [] => 0
  | x :: r => uptoBulkEntry x + uptoBulkEntries r
def uptoBulkEntry {H : Type} : Lit × DataW H → Nat
  | (.string bytes, d) => bytes.length + uptoBulk d + 1
  | (_, d) => uptoBulk d + 1
 end
def uptoSmall : (H : Type) → List (DataW H) → Bool := fun _ ds => decide (uptoBulkAll ds ≤ 1048576)
def OpenSpec.upto (s : _root_.Go.ChangeSpec) : _root_.Go.OpenSpec := { _root_.Go.OpenSpec.ofChange s with cond := some uptoSmall }

/-- 'lapidarylaw09.GraphHolds', WHERE WHAT IT READS IS OF BULK AT MOST 1048576: true; the input reads as it did. -/
def graphHoldsUptoRow : OpenClaim := { program := "ytbkaopeajjechaa", sum := "2bc93fd07e8af2593575cd5dce95a695e4fa3f6ae4518f5bad58b28671c7590d", func := "lapidary/lapidarylaw09.GraphHolds", spec := "graphHolds", unfollowed := true, recurses := true, apart := false, narrowed := true }
def GraphHoldsUptoSaid : Prop := graphHoldsUptoRow.holds Try.pinned (OpenSpec.upto graphHoldsSpec)

/-- 'lapidarylaw09.GraphPlay', WHERE WHAT IT READS IS OF BULK AT MOST 1048576: true; the input reads as it did. -/
def graphPlayUptoRow : OpenClaim := { program := "ytbkaopeajjechaa", sum := "2bc93fd07e8af2593575cd5dce95a695e4fa3f6ae4518f5bad58b28671c7590d", func := "lapidary/lapidarylaw09.GraphPlay", spec := "graphPlay", unfollowed := true, recurses := true, apart := false, narrowed := true }
def GraphPlayUptoSaid : Prop := graphPlayUptoRow.holds Try.pinned (OpenSpec.upto graphPlaySpec)

/-- 'lapidarylaw09.GraphViews', WHERE WHAT IT READS IS OF BULK AT MOST 1048576: true; the input reads as it did. -/
def graphViewsUptoRow : OpenClaim := { program := "ytbkaopeajjechaa", sum := "2bc93fd07e8af2593575cd5dce95a695e4fa3f6ae4518f5bad58b28671c7590d", func := "lapidary/lapidarylaw09.GraphViews", spec := "graphViews", unfollowed := true, recurses := true, apart := false, narrowed := true }
def GraphViewsUptoSaid : Prop := graphViewsUptoRow.holds Try.pinned (OpenSpec.upto graphViewsSpec)

/-- 'lapidarylaw09.GraphRefuses', WHERE WHAT IT READS IS OF BULK AT MOST 1048576: true; the input reads as it did. -/
def graphRefusesUptoRow : OpenClaim := { program := "ytbkaopeajjechaa", sum := "2bc93fd07e8af2593575cd5dce95a695e4fa3f6ae4518f5bad58b28671c7590d", func := "lapidary/lapidarylaw09.GraphRefuses", spec := "graphRefuses", unfollowed := true, recurses := true, apart := false, narrowed := true }
def GraphRefusesUptoSaid : Prop := graphRefusesUptoRow.holds Try.pinned (OpenSpec.upto graphRefusesSpec)

/-- 'lapidarylaw09.GraphCopies', WHERE WHAT IT READS IS OF BULK AT MOST 1048576: true; the input reads as it did. -/
def graphCopiesUptoRow : OpenClaim := { program := "ytbkaopeajjechaa", sum := "2bc93fd07e8af2593575cd5dce95a695e4fa3f6ae4518f5bad58b28671c7590d", func := "lapidary/lapidarylaw09.GraphCopies", spec := "graphCopies", unfollowed := true, recurses := true, apart := false, narrowed := true }
def GraphCopiesUptoSaid : Prop := graphCopiesUptoRow.holds Try.pinned (OpenSpec.upto graphCopiesSpec)

/-- 'lapidarylaw09.GraphNil', WHERE WHAT IT READS IS OF BULK AT MOST 1048576: true; the input reads as it did. -/
def graphNilUptoRow : OpenClaim := { program := "ytbkaopeajjechaa", sum := "2bc93fd07e8af2593575cd5dce95a695e4fa3f6ae4518f5bad58b28671c7590d", func := "lapidary/lapidarylaw09.GraphNil", spec := "graphNil", unfollowed := true, recurses := true, apart := false, narrowed := true }
def GraphNilUptoSaid : Prop := graphNilUptoRow.holds Try.pinned (OpenSpec.upto graphNilSpec)

/-- 'lapidarylaw09.GraphSwaps', WHERE WHAT IT READS IS OF BULK AT MOST 1048576: true; the input reads as it did. -/
def graphSwapsUptoRow : OpenClaim := { program := "ytbkaopeajjechaa", sum := "2bc93fd07e8af2593575cd5dce95a695e4fa3f6ae4518f5bad58b28671c7590d", func := "lapidary/lapidarylaw09.GraphSwaps", spec := "graphSwaps", unfollowed := true, recurses := true, apart := false, narrowed := true }
def GraphSwapsUptoSaid : Prop := graphSwapsUptoRow.holds Try.pinned (OpenSpec.upto graphSwapsSpec)

end Rows
end Go.Proofs.Ytbkaopeajjechaa
