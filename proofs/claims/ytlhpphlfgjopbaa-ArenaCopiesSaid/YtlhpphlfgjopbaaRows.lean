/-
  No cell of these rows narrows 'for every input' (looked for: loops, veiled, ifaces, maps, wideKeys, modest, calm, conditions, laid).
  DERIVED. THE GIVEN ROWS OF THIS SEAT. 7 by the template 'for every input the law returns true; each argument reads behind the call as it read before'; 0 by the template 'total and deterministic' (their statements: YtlhpphlfgjopbaaTotals.lean).
  GIVEN WITH THE SEED: the statements are not yours to turn. If you find one false, say at which input.
  Laid BY PROGRAM, IN A SANDBOX (cutbox-rows.mjs): the forced cells as the released guide's own fill.sh prints them over the translation 53fd6af2b5bc7612… (all of the seat's roots in one cut). By AI agents, Wed Nov 11 2026. No macro, syntax, notation, axiom, sorry.
-/
import Derived.Test.YtlhpphlfgjopbaaChecked
import GoSem.Claim
import GoSem.ClaimJoined
import GoSem.ClaimMapViews
import Derived.JoinedTies
import Derived.KernelRfl
namespace Go.Proofs.Ytlhpphlfgjopbaa
/- THE CELL 'sum', in the pinned program and in every row, IS THE sha256 OF THE DUMP (.gsa) THAT YtlhpphlfgjopbaaProg.lean LOADS. Nothing in Lean hashes anything: it is a label: what it is worth is what the hold of that sum in a sandbox is worth. -/
noncomputable def Try.pinned : Pinned := { name := "ytlhpphlfgjopbaa", sum := "53fd6af2b5bc7612ab82c28b0f7309688a4d04d8e468127c627cc973131e6adc", checked := Try.checked }
namespace Rows
def none {H : Type} : Left H := { results := [], args := [] }

/-- 'lapidarylaw05.ArenaChecks': WHATEVER THE INPUT: true; the input reads as it did. -/
def arenaChecksSpec : ChangeSpec := { name := "arenaChecks", fn := fun _ => fun
  | [d] => { results := [.lit (.bool true)], args := [d] }
  | _ => none }
def arenaChecksRow : OpenClaim := { program := "ytlhpphlfgjopbaa", sum := "53fd6af2b5bc7612ab82c28b0f7309688a4d04d8e468127c627cc973131e6adc", func := "lapidary/lapidarylaw05.ArenaChecks", spec := "arenaChecks", unfollowed := true, recurses := true, apart := false }
def ArenaChecksSaid : Prop := arenaChecksRow.holds Try.pinned (OpenSpec.ofChange arenaChecksSpec)

/-- ITS FALSE NEIGHBOUR: 'it returns false'. Refute it at one input. -/
def arenaChecksWrong : ChangeSpec := { name := "arenaChecks", fn := fun _ => fun
  | [d] => { results := [.lit (.bool false)], args := [d] }
  | _ => none }
def ArenaChecksWrongFalsely : Prop := arenaChecksRow.holds Try.pinned (OpenSpec.ofChange arenaChecksWrong)

/-- 'lapidarylaw05.ArenaOf': WHATEVER THE INPUT: true; the input reads as it did. -/
def arenaOfSpec : ChangeSpec := { name := "arenaOf", fn := fun _ => fun
  | [d1, d2] => { results := [.lit (.bool true)], args := [d1, d2] }
  | _ => none }
def arenaOfRow : OpenClaim := { program := "ytlhpphlfgjopbaa", sum := "53fd6af2b5bc7612ab82c28b0f7309688a4d04d8e468127c627cc973131e6adc", func := "lapidary/lapidarylaw05.ArenaOf", spec := "arenaOf", unfollowed := true, recurses := true, apart := false }
def ArenaOfSaid : Prop := arenaOfRow.holds Try.pinned (OpenSpec.ofChange arenaOfSpec)

/-- ITS FALSE NEIGHBOUR: 'it returns false'. Refute it at one input. -/
def arenaOfWrong : ChangeSpec := { name := "arenaOf", fn := fun _ => fun
  | [d1, d2] => { results := [.lit (.bool false)], args := [d1, d2] }
  | _ => none }
def ArenaOfWrongFalsely : Prop := arenaOfRow.holds Try.pinned (OpenSpec.ofChange arenaOfWrong)

/-- 'lapidarylaw05.ArenaPlay': WHATEVER THE INPUT: true; the input reads as it did. -/
def arenaPlaySpec : ChangeSpec := { name := "arenaPlay", fn := fun _ => fun
  | [d1, d2] => { results := [.lit (.bool true)], args := [d1, d2] }
  | _ => none }
def arenaPlayRow : OpenClaim := { program := "ytlhpphlfgjopbaa", sum := "53fd6af2b5bc7612ab82c28b0f7309688a4d04d8e468127c627cc973131e6adc", func := "lapidary/lapidarylaw05.ArenaPlay", spec := "arenaPlay", unfollowed := true, recurses := true, apart := false }
def ArenaPlaySaid : Prop := arenaPlayRow.holds Try.pinned (OpenSpec.ofChange arenaPlaySpec)

/-- ITS FALSE NEIGHBOUR: 'it returns false'. Refute it at one input. -/
def arenaPlayWrong : ChangeSpec := { name := "arenaPlay", fn := fun _ => fun
  | [d1, d2] => { results := [.lit (.bool false)], args := [d1, d2] }
  | _ => none }
def ArenaPlayWrongFalsely : Prop := arenaPlayRow.holds Try.pinned (OpenSpec.ofChange arenaPlayWrong)

/-- 'lapidarylaw05.ArenaAll': WHATEVER THE INPUT: true; the input reads as it did. -/
def arenaAllSpec : ChangeSpec := { name := "arenaAll", fn := fun _ => fun
  | [d1, d2] => { results := [.lit (.bool true)], args := [d1, d2] }
  | _ => none }
def arenaAllRow : OpenClaim := { program := "ytlhpphlfgjopbaa", sum := "53fd6af2b5bc7612ab82c28b0f7309688a4d04d8e468127c627cc973131e6adc", func := "lapidary/lapidarylaw05.ArenaAll", spec := "arenaAll", unfollowed := true, recurses := true, apart := false }
def ArenaAllSaid : Prop := arenaAllRow.holds Try.pinned (OpenSpec.ofChange arenaAllSpec)

/-- ITS FALSE NEIGHBOUR: 'it returns false'. Refute it at one input. -/
def arenaAllWrong : ChangeSpec := { name := "arenaAll", fn := fun _ => fun
  | [d1, d2] => { results := [.lit (.bool false)], args := [d1, d2] }
  | _ => none }
def ArenaAllWrongFalsely : Prop := arenaAllRow.holds Try.pinned (OpenSpec.ofChange arenaAllWrong)

/-- 'lapidarylaw05.ArenaCalls': WHATEVER THE INPUT: true; the input reads as it did. -/
def arenaCallsSpec : ChangeSpec := { name := "arenaCalls", fn := fun _ => fun
  | [d1, d2] => { results := [.lit (.bool true)], args := [d1, d2] }
  | _ => none }
def arenaCallsRow : OpenClaim := { program := "ytlhpphlfgjopbaa", sum := "53fd6af2b5bc7612ab82c28b0f7309688a4d04d8e468127c627cc973131e6adc", func := "lapidary/lapidarylaw05.ArenaCalls", spec := "arenaCalls", unfollowed := true, recurses := true, apart := false }
def ArenaCallsSaid : Prop := arenaCallsRow.holds Try.pinned (OpenSpec.ofChange arenaCallsSpec)

/-- ITS FALSE NEIGHBOUR: 'it returns false'. Refute it at one input. -/
def arenaCallsWrong : ChangeSpec := { name := "arenaCalls", fn := fun _ => fun
  | [d1, d2] => { results := [.lit (.bool false)], args := [d1, d2] }
  | _ => none }
def ArenaCallsWrongFalsely : Prop := arenaCallsRow.holds Try.pinned (OpenSpec.ofChange arenaCallsWrong)

/-- 'lapidarylaw05.ArenaNil': WHATEVER THE INPUT: true; the input reads as it did. -/
def arenaNilSpec : ChangeSpec := { name := "arenaNil", fn := fun _ => fun
  | [d1, d2] => { results := [.lit (.bool true)], args := [d1, d2] }
  | _ => none }
def arenaNilRow : OpenClaim := { program := "ytlhpphlfgjopbaa", sum := "53fd6af2b5bc7612ab82c28b0f7309688a4d04d8e468127c627cc973131e6adc", func := "lapidary/lapidarylaw05.ArenaNil", spec := "arenaNil", unfollowed := true, recurses := true, apart := false }
def ArenaNilSaid : Prop := arenaNilRow.holds Try.pinned (OpenSpec.ofChange arenaNilSpec)

/-- ITS FALSE NEIGHBOUR: 'it returns false'. Refute it at one input. -/
def arenaNilWrong : ChangeSpec := { name := "arenaNil", fn := fun _ => fun
  | [d1, d2] => { results := [.lit (.bool false)], args := [d1, d2] }
  | _ => none }
def ArenaNilWrongFalsely : Prop := arenaNilRow.holds Try.pinned (OpenSpec.ofChange arenaNilWrong)

/-- 'lapidarylaw05.ArenaCopies': WHATEVER THE INPUT: true; the input reads as it did. -/
def arenaCopiesSpec : ChangeSpec := { name := "arenaCopies", fn := fun _ => fun
  | [d1, d2, d3] => { results := [.lit (.bool true)], args := [d1, d2, d3] }
  | _ => none }
def arenaCopiesRow : OpenClaim := { program := "ytlhpphlfgjopbaa", sum := "53fd6af2b5bc7612ab82c28b0f7309688a4d04d8e468127c627cc973131e6adc", func := "lapidary/lapidarylaw05.ArenaCopies", spec := "arenaCopies", unfollowed := true, recurses := true, apart := false }
def ArenaCopiesSaid : Prop := arenaCopiesRow.holds Try.pinned (OpenSpec.ofChange arenaCopiesSpec)

/-- ITS FALSE NEIGHBOUR: 'it returns false'. Refute it at one input. -/
def arenaCopiesWrong : ChangeSpec := { name := "arenaCopies", fn := fun _ => fun
  | [d1, d2, d3] => { results := [.lit (.bool false)], args := [d1, d2, d3] }
  | _ => none }
def ArenaCopiesWrongFalsely : Prop := arenaCopiesRow.holds Try.pinned (OpenSpec.ofChange arenaCopiesWrong)

/- THE SECOND FORM. 'bulk': how many values and letters a reading holds, each counted each time it is reached (what is shared counts as often as it is met; a slice's spare places count too). A statement '..UptoSaid' is the law's where the arguments, and the package variables that the reading takes, are together of bulk at most 1048576: NARROWER than '..Said'. Prove '..Said' where nothing that the law and all that it calls make is longer than what came in: it says more and counts as full. Else prove '..UptoSaid'. A law counts once. -/
mutual
def uptoBulk {H : Type} : DataW H → Nat
  | .lit (.string bytes) => bytes.length + 1
  | .lit _ => 1
  | .nil => 1
  | .ptr d => uptoBulk d + 1
  | .slice elems spare => uptoBulkAll elems + uptoBulkAll spare + 1
  | .agg parts => uptoBulkAll parts + 1
  | .iface _ d => uptoBulk d + 1
  | .map entries => uptoBulkEntries entries + 1
  | .held _ => 1
def uptoBulkAll {H : Type} : List (DataW H) → Nat
  | [] => 0
  | d :: r => uptoBulk d + uptoBulkAll r
def uptoBulkEntries {H : Type} : List (Lit × DataW H) → Nat
  | [] => 0
  | x :: r => uptoBulkEntry x + uptoBulkEntries r
def uptoBulkEntry {H : Type} : Lit × DataW H → Nat
  | (.string bytes, d) => bytes.length + uptoBulk d + 1
  | (_, d) => uptoBulk d + 1
 end
def uptoSmall : (H : Type) → List (DataW H) → Bool := fun _ ds => decide (uptoBulkAll ds ≤ 1048576)
def OpenSpec.upto (s : _root_.Go.ChangeSpec) : _root_.Go.OpenSpec := { _root_.Go.OpenSpec.ofChange s with cond := some uptoSmall }

/-- 'lapidarylaw05.ArenaChecks', WHERE WHAT IT READS IS OF BULK AT MOST 1048576: true; the input reads as it did. -/
def arenaChecksUptoRow : OpenClaim := { program := "ytlhpphlfgjopbaa", sum := "53fd6af2b5bc7612ab82c28b0f7309688a4d04d8e468127c627cc973131e6adc", func := "lapidary/lapidarylaw05.ArenaChecks", spec := "arenaChecks", unfollowed := true, recurses := true, apart := false, narrowed := true }
def ArenaChecksUptoSaid : Prop := arenaChecksUptoRow.holds Try.pinned (OpenSpec.upto arenaChecksSpec)

/-- 'lapidarylaw05.ArenaOf', WHERE WHAT IT READS IS OF BULK AT MOST 1048576: true; the input reads as it did. -/
def arenaOfUptoRow : OpenClaim := { program := "ytlhpphlfgjopbaa", sum := "53fd6af2b5bc7612ab82c28b0f7309688a4d04d8e468127c627cc973131e6adc", func := "lapidary/lapidarylaw05.ArenaOf", spec := "arenaOf", unfollowed := true, recurses := true, apart := false, narrowed := true }
def ArenaOfUptoSaid : Prop := arenaOfUptoRow.holds Try.pinned (OpenSpec.upto arenaOfSpec)

/-- 'lapidarylaw05.ArenaPlay', WHERE WHAT IT READS IS OF BULK AT MOST 1048576: true; the input reads as it did. -/
def arenaPlayUptoRow : OpenClaim := { program := "ytlhpphlfgjopbaa", sum := "53fd6af2b5bc7612ab82c28b0f7309688a4d04d8e468127c627cc973131e6adc", func := "lapidary/lapidarylaw05.ArenaPlay", spec := "arenaPlay", unfollowed := true, recurses := true, apart := false, narrowed := true }
def ArenaPlayUptoSaid : Prop := arenaPlayUptoRow.holds Try.pinned (OpenSpec.upto arenaPlaySpec)

/-- 'lapidarylaw05.ArenaAll', WHERE WHAT IT READS IS OF BULK AT MOST 1048576: true; the input reads as it did. -/
def arenaAllUptoRow : OpenClaim := { program := "ytlhpphlfgjopbaa", sum := "53fd6af2b5bc7612ab82c28b0f7309688a4d04d8e468127c627cc973131e6adc", func := "lapidary/lapidarylaw05.ArenaAll", spec := "arenaAll", unfollowed := true, recurses := true, apart := false, narrowed := true }
def ArenaAllUptoSaid : Prop := arenaAllUptoRow.holds Try.pinned (OpenSpec.upto arenaAllSpec)

/-- 'lapidarylaw05.ArenaCalls', WHERE WHAT IT READS IS OF BULK AT MOST 1048576: true; the input reads as it did. -/
def arenaCallsUptoRow : OpenClaim := { program := "ytlhpphlfgjopbaa", sum := "53fd6af2b5bc7612ab82c28b0f7309688a4d04d8e468127c627cc973131e6adc", func := "lapidary/lapidarylaw05.ArenaCalls", spec := "arenaCalls", unfollowed := true, recurses := true, apart := false, narrowed := true }
def ArenaCallsUptoSaid : Prop := arenaCallsUptoRow.holds Try.pinned (OpenSpec.upto arenaCallsSpec)

/-- 'lapidarylaw05.ArenaNil', WHERE WHAT IT READS IS OF BULK AT MOST 1048576: true; the input reads as it did. -/
def arenaNilUptoRow : OpenClaim := { program := "ytlhpphlfgjopbaa", sum := "53fd6af2b5bc7612ab82c28b0f7309688a4d04d8e468127c627cc973131e6adc", func := "lapidary/lapidarylaw05.ArenaNil", spec := "arenaNil", unfollowed := true, recurses := true, apart := false, narrowed := true }
def ArenaNilUptoSaid : Prop := arenaNilUptoRow.holds Try.pinned (OpenSpec.upto arenaNilSpec)

/-- 'lapidarylaw05.ArenaCopies', WHERE WHAT IT READS IS OF BULK AT MOST 1048576: true; the input reads as it did. -/
def arenaCopiesUptoRow : OpenClaim := { program := "ytlhpphlfgjopbaa", sum := "53fd6af2b5bc7612ab82c28b0f7309688a4d04d8e468127c627cc973131e6adc", func := "lapidary/lapidarylaw05.ArenaCopies", spec := "arenaCopies", unfollowed := true, recurses := true, apart := false, narrowed := true }
def ArenaCopiesUptoSaid : Prop := arenaCopiesUptoRow.holds Try.pinned (OpenSpec.upto arenaCopiesSpec)

end Rows
end Go.Proofs.Ytlhpphlfgjopbaa
