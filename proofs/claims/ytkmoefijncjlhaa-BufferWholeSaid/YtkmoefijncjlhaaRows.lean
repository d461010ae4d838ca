/-
  No cell of these rows narrows 'for every input' (looked for: loops, veiled, ifaces, maps, wideKeys, modest, calm, conditions, laid).
  DERIVED. THE GIVEN ROWS OF THIS SEAT. 5 by the template 'for every input the law returns true; each argument reads behind the call as it read before'; 0 by the template 'total and deterministic' (their statements: YtkmoefijncjlhaaTotals.lean).
  GIVEN WITH THE SEED: the statements are not yours to turn. If you find one false, say at which input.
  Laid BY PROGRAM, IN A SANDBOX (cutbox-rows.mjs): the forced cells as the released guide's own fill.sh prints them over the translation 6af5069ef34c7c28… (all of the seat's roots in one cut). By AI agents, Wed Nov 11 2026. No macro, syntax, notation, axiom, sorry.
-/
import Derived.Test.YtkmoefijncjlhaaChecked
import GoSem.Claim
import GoSem.ClaimJoined
import GoSem.ClaimMapViews
import Derived.JoinedTies
import Derived.KernelRfl
namespace Go.Proofs.Ytkmoefijncjlhaa
/- THE CELL 'sum', in the pinned program and in every row, IS THE sha256 OF THE DUMP (.gsa) THAT YtkmoefijncjlhaaProg.lean LOADS. Nothing in Lean hashes anything: it is a label: what it is worth is what the hold of that sum in a sandbox is worth. -/
noncomputable def Try.pinned : Pinned := { name := "ytkmoefijncjlhaa", sum := "6af5069ef34c7c28d1c805925bfed3f782a0ac72785db7a476db5fe7f6526c1d", checked := Try.checked }
namespace Rows
def none {H : Type} : Left H := { results := [], args := [] }

/-- 'lapidarylaw15.BufferChecks': WHATEVER THE INPUT: true; the input reads as it did. -/
def bufferChecksSpec : ChangeSpec := { name := "bufferChecks", fn := fun _ => fun
  | [d1, d2, d3] => { results := [.lit (.bool true)], args := [d1, d2, d3] }
  | _ => none }
def bufferChecksRow : OpenClaim := { program := "ytkmoefijncjlhaa", sum := "6af5069ef34c7c28d1c805925bfed3f782a0ac72785db7a476db5fe7f6526c1d", func := "lapidary/lapidarylaw15.BufferChecks", spec := "bufferChecks", unfollowed := true, recurses := true, apart := false }
def BufferChecksSaid : Prop := bufferChecksRow.holds Try.pinned (OpenSpec.ofChange bufferChecksSpec)

/-- ITS FALSE NEIGHBOUR: 'it returns false'. Refute it at one input. -/
def bufferChecksWrong : ChangeSpec := { name := "bufferChecks", fn := fun _ => fun
  | [d1, d2, d3] => { results := [.lit (.bool false)], args := [d1, d2, d3] }
  | _ => none }
def BufferChecksWrongFalsely : Prop := bufferChecksRow.holds Try.pinned (OpenSpec.ofChange bufferChecksWrong)

/-- 'lapidarylaw15.BufferTakes': WHATEVER THE INPUT: true; the input reads as it did. -/
def bufferTakesSpec : ChangeSpec := { name := "bufferTakes", fn := fun _ => fun
  | [d1, d2, d3] => { results := [.lit (.bool true)], args := [d1, d2, d3] }
  | _ => none }
def bufferTakesRow : OpenClaim := { program := "ytkmoefijncjlhaa", sum := "6af5069ef34c7c28d1c805925bfed3f782a0ac72785db7a476db5fe7f6526c1d", func := "lapidary/lapidarylaw15.BufferTakes", spec := "bufferTakes", unfollowed := true, recurses := true, apart := false }
def BufferTakesSaid : Prop := bufferTakesRow.holds Try.pinned (OpenSpec.ofChange bufferTakesSpec)

/-- ITS FALSE NEIGHBOUR: 'it returns false'. Refute it at one input. -/
def bufferTakesWrong : ChangeSpec := { name := "bufferTakes", fn := fun _ => fun
  | [d1, d2, d3] => { results := [.lit (.bool false)], args := [d1, d2, d3] }
  | _ => none }
def BufferTakesWrongFalsely : Prop := bufferTakesRow.holds Try.pinned (OpenSpec.ofChange bufferTakesWrong)

/-- 'lapidarylaw15.BufferGives': WHATEVER THE INPUT: true; the input reads as it did. -/
def bufferGivesSpec : ChangeSpec := { name := "bufferGives", fn := fun _ => fun
  | [d1, d2, d3, d4] => { results := [.lit (.bool true)], args := [d1, d2, d3, d4] }
  | _ => none }
def bufferGivesRow : OpenClaim := { program := "ytkmoefijncjlhaa", sum := "6af5069ef34c7c28d1c805925bfed3f782a0ac72785db7a476db5fe7f6526c1d", func := "lapidary/lapidarylaw15.BufferGives", spec := "bufferGives", unfollowed := true, recurses := true, apart := false }
def BufferGivesSaid : Prop := bufferGivesRow.holds Try.pinned (OpenSpec.ofChange bufferGivesSpec)

/-- ITS FALSE NEIGHBOUR: 'it returns false'. Refute it at one input. -/
def bufferGivesWrong : ChangeSpec := { name := "bufferGives", fn := fun _ => fun
  | [d1, d2, d3, d4] => { results := [.lit (.bool false)], args := [d1, d2, d3, d4] }
  | _ => none }
def BufferGivesWrongFalsely : Prop := bufferGivesRow.holds Try.pinned (OpenSpec.ofChange bufferGivesWrong)

/-- 'lapidarylaw15.BufferKeeps': WHATEVER THE INPUT: true; the input reads as it did. -/
def bufferKeepsSpec : ChangeSpec := { name := "bufferKeeps", fn := fun _ => fun
  | [d1, d2, d3] => { results := [.lit (.bool true)], args := [d1, d2, d3] }
  | _ => none }
def bufferKeepsRow : OpenClaim := { program := "ytkmoefijncjlhaa", sum := "6af5069ef34c7c28d1c805925bfed3f782a0ac72785db7a476db5fe7f6526c1d", func := "lapidary/lapidarylaw15.BufferKeeps", spec := "bufferKeeps", unfollowed := true, recurses := true, apart := false }
def BufferKeepsSaid : Prop := bufferKeepsRow.holds Try.pinned (OpenSpec.ofChange bufferKeepsSpec)

/-- ITS FALSE NEIGHBOUR: 'it returns false'. Refute it at one input. -/
def bufferKeepsWrong : ChangeSpec := { name := "bufferKeeps", fn := fun _ => fun
  | [d1, d2, d3] => { results := [.lit (.bool false)], args := [d1, d2, d3] }
  | _ => none }
def BufferKeepsWrongFalsely : Prop := bufferKeepsRow.holds Try.pinned (OpenSpec.ofChange bufferKeepsWrong)

/-- 'lapidarylaw15.BufferWhole': WHATEVER THE INPUT: true; the input reads as it did. -/
def bufferWholeSpec : ChangeSpec := { name := "bufferWhole", fn := fun _ => fun
  | [d] => { results := [.lit (.bool true)], args := [d] }
  | _ => none }
def bufferWholeRow : OpenClaim := { program := "ytkmoefijncjlhaa", sum := "6af5069ef34c7c28d1c805925bfed3f782a0ac72785db7a476db5fe7f6526c1d", func := "lapidary/lapidarylaw15.BufferWhole", spec := "bufferWhole", unfollowed := true, recurses := true, apart := false }
def BufferWholeSaid : Prop := bufferWholeRow.holds Try.pinned (OpenSpec.ofChange bufferWholeSpec)

/-- ITS FALSE NEIGHBOUR: 'it returns false'. Refute it at one input. -/
def bufferWholeWrong : ChangeSpec := { name := "bufferWhole", fn := fun _ => fun
  | [d] => { results := [.lit (.bool false)], args := [d] }
  | _ => none }
def BufferWholeWrongFalsely : Prop := bufferWholeRow.holds Try.pinned (OpenSpec.ofChange bufferWholeWrong)

/- THE SECOND FORM. 'bulk': how many values and letters a reading holds, each counted each time it is reached (what is shared counts as often as it is met; a slice's spare places count too). A statement '..UptoSaid' is the law's where the arguments, and the package variables that the reading takes, are together of bulk at most 1048576: NARROWER than '..Said'. Prove '..Said' where nothing that the law and all that it calls make is longer than what came in: it says more and counts as full. Else prove '..UptoSaid'. A law counts once. -/
mutual
def uptoBulk {H : Type} : DataW H → Nat
  | .lit (.string bytes) => bytes.length + 1
  | .lit _ => 1
  | .nil => 1
  | .ptr d => uptoBulk d + 1
  | .slice elems spare => uptoBulkAll elems + uptoBulkAll spare + 1
  | .agg parts => uptoBulkAll parts + 1
  | .iface _ d => uptoBulk d + 1
  | .map entries => uptoBulkEntries entries + 1
  | .held _ => 1
def uptoBulkAll {H : Type} : List (DataW H) → Nat
  | [] => 0
  | d :: r => uptoBulk d + uptoBulkAll r
def uptoBulkEntries {H : Type} : List (Lit × DataW H) → Nat
  | [] => 0
  | x :: r => uptoBulkEntry x + uptoBulkEntries r
def uptoBulkEntry {H : Type} : Lit × DataW H → Nat
  | (.string bytes, d) => bytes.length + uptoBulk d + 1
  | (_, d) => uptoBulk d + 1
 end
def uptoSmall : (H : Type) → List (DataW H) → Bool := fun _ ds => decide (uptoBulkAll ds ≤ 1048576)
def OpenSpec.upto (s : _root_.Go.ChangeSpec) : _root_.Go.OpenSpec := { _root_.Go.OpenSpec.ofChange s with cond := some uptoSmall }

/-- 'lapidarylaw15.BufferChecks', WHERE WHAT IT READS IS OF BULK AT MOST 1048576: true; the input reads as it did. -/
def bufferChecksUptoRow : OpenClaim := { program := "ytkmoefijncjlhaa", sum := "6af5069ef34c7c28d1c805925bfed3f782a0ac72785db7a476db5fe7f6526c1d", func := "lapidary/lapidarylaw15.BufferChecks", spec := "bufferChecks", unfollowed := true, recurses := true, apart := false, narrowed := true }
def BufferChecksUptoSaid : Prop := bufferChecksUptoRow.holds Try.pinned (OpenSpec.upto bufferChecksSpec)

/-- 'lapidarylaw15.BufferTakes', WHERE WHAT IT READS IS OF BULK AT MOST 1048576: true; the input reads as it did. -/
def bufferTakesUptoRow : OpenClaim := { program := "ytkmoefijncjlhaa", sum := "6af5069ef34c7c28d1c805925bfed3f782a0ac72785db7a476db5fe7f6526c1d", func := "lapidary/lapidarylaw15.BufferTakes", spec := "bufferTakes", unfollowed := true, recurses := true, apart := false, narrowed := true }
def BufferTakesUptoSaid : Prop := bufferTakesUptoRow.holds Try.pinned (OpenSpec.upto bufferTakesSpec)

/-- 'lapidarylaw15.BufferGives', WHERE WHAT IT READS IS OF BULK AT MOST 1048576: true; the input reads as it did. -/
def bufferGivesUptoRow : OpenClaim := { program := "ytkmoefijncjlhaa", sum := "6af5069ef34c7c28d1c805925bfed3f782a0ac72785db7a476db5fe7f6526c1d", func := "lapidary/lapidarylaw15.BufferGives", spec := "bufferGives", unfollowed := true, recurses := true, apart := false, narrowed := true }
def BufferGivesUptoSaid : Prop := bufferGivesUptoRow.holds Try.pinned (OpenSpec.upto bufferGivesSpec)

/-- 'lapidarylaw15.BufferKeeps', WHERE WHAT IT READS IS OF BULK AT MOST 1048576: true; the input reads as it did. -/
def bufferKeepsUptoRow : OpenClaim := { program := "ytkmoefijncjlhaa", sum := "6af5069ef34c7c28d1c805925bfed3f782a0ac72785db7a476db5fe7f6526c1d", func := "lapidary/lapidarylaw15.BufferKeeps", spec := "bufferKeeps", unfollowed := true, recurses := true, apart := false, narrowed := true }
def BufferKeepsUptoSaid : Prop := bufferKeepsUptoRow.holds Try.pinned (OpenSpec.upto bufferKeepsSpec)

/-- 'lapidarylaw15.BufferWhole', WHERE WHAT IT READS IS OF BULK AT MOST 1048576: true; the input reads as it did. -/
def bufferWholeUptoRow : OpenClaim := { program := "ytkmoefijncjlhaa", sum := "6af5069ef34c7c28d1c805925bfed3f782a0ac72785db7a476db5fe7f6526c1d", func := "lapidary/lapidarylaw15.BufferWhole", spec := "bufferWhole", unfollowed := true, recurses := true, apart := false, narrowed := true }
def BufferWholeUptoSaid : Prop := bufferWholeUptoRow.holds Try.pinned (OpenSpec.upto bufferWholeSpec)

end Rows
end Go.Proofs.Ytkmoefijncjlhaa
