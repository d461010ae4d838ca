/-
  No cell of these rows narrows 'for every input' (looked for: loops, veiled, ifaces, maps, wideKeys, modest, calm, conditions, laid).
  DERIVED. THE GIVEN ROWS OF THIS SEAT. 6 by the template 'for every input the law returns true; each argument reads behind the call as it read before'; 0 by the template 'total and deterministic' (their statements: YtdkpadiaikfdpaaTotals.lean).
  GIVEN WITH THE SEED: the statements are not yours to turn. If you find one false, say at which input.
  Laid BY PROGRAM, IN A SANDBOX (cutbox-rows.mjs): the forced cells as the released guide's own fill.sh prints them over the translation 5f930d7d73d47b01… (all of the seat's roots in one cut). By AI agents, Wed Nov 11 2026. No macro, syntax, notation, axiom, sorry.
-/
import Derived.Test.YtdkpadiaikfdpaaChecked
import GoSem.Claim
import GoSem.ClaimJoined
import GoSem.ClaimMapViews
import Derived.JoinedTies
import Derived.KernelRfl
namespace Go.Proofs.Ytdkpadiaikfdpaa
/- THE CELL 'sum', in the pinned program and in every row, IS THE sha256 OF THE DUMP (.gsa) THAT YtdkpadiaikfdpaaProg.lean LOADS. Nothing in Lean hashes anything: it is a label: what it is worth is what the hold of that sum in a sandbox is worth. -/
noncomputable def Try.pinned : Pinned := { name := "ytdkpadiaikfdpaa", sum := "5f930d7d73d47b01f91ada6263adcd6a0759cb9c546d1cee8f12fb080614e875", checked := Try.checked }
namespace Rows
def none {H : Type} : Left H := { results := [], args := [] }

/-- 'lapidarylaw13.LogWrong': WHATEVER THE INPUT: true; the input reads as it did. -/
def logWrongSpec : ChangeSpec := { name := "logWrong", fn := fun _ => fun
  | [d1, d2] => { results := [.lit (.bool true)], args := [d1, d2] }
  | _ => none }
def logWrongRow : OpenClaim := { program := "ytdkpadiaikfdpaa", sum := "5f930d7d73d47b01f91ada6263adcd6a0759cb9c546d1cee8f12fb080614e875", func := "lapidary/lapidarylaw13.LogWrong", spec := "logWrong", unfollowed := true, recurses := true, apart := false }
def LogWrongSaid : Prop := logWrongRow.holds Try.pinned (OpenSpec.ofChange logWrongSpec)

/-- ITS FALSE NEIGHBOUR: 'it returns false'. Refute it at one input. -/
def logWrongWrong : ChangeSpec := { name := "logWrong", fn := fun _ => fun
  | [d1, d2] => { results := [.lit (.bool false)], args := [d1, d2] }
  | _ => none }
def LogWrongWrongFalsely : Prop := logWrongRow.holds Try.pinned (OpenSpec.ofChange logWrongWrong)

/-- 'lapidarylaw13.LogLasts': WHATEVER THE INPUT: true; the input reads as it did. -/
def logLastsSpec : ChangeSpec := { name := "logLasts", fn := fun _ => fun
  | [d1, d2] => { results := [.lit (.bool true)], args := [d1, d2] }
  | _ => none }
def logLastsRow : OpenClaim := { program := "ytdkpadiaikfdpaa", sum := "5f930d7d73d47b01f91ada6263adcd6a0759cb9c546d1cee8f12fb080614e875", func := "lapidary/lapidarylaw13.LogLasts", spec := "logLasts", unfollowed := true, recurses := true, apart := false }
def LogLastsSaid : Prop := logLastsRow.holds Try.pinned (OpenSpec.ofChange logLastsSpec)

/-- ITS FALSE NEIGHBOUR: 'it returns false'. Refute it at one input. -/
def logLastsWrong : ChangeSpec := { name := "logLasts", fn := fun _ => fun
  | [d1, d2] => { results := [.lit (.bool false)], args := [d1, d2] }
  | _ => none }
def LogLastsWrongFalsely : Prop := logLastsRow.holds Try.pinned (OpenSpec.ofChange logLastsWrong)

/-- 'lapidarylaw13.LogSwaps': WHATEVER THE INPUT: true; the input reads as it did. -/
def logSwapsSpec : ChangeSpec := { name := "logSwaps", fn := fun _ => fun
  | [d1, d2, d3] => { results := [.lit (.bool true)], args := [d1, d2, d3] }
  | _ => none }
def logSwapsRow : OpenClaim := { program := "ytdkpadiaikfdpaa", sum := "5f930d7d73d47b01f91ada6263adcd6a0759cb9c546d1cee8f12fb080614e875", func := "lapidary/lapidarylaw13.LogSwaps", spec := "logSwaps", unfollowed := true, recurses := true, apart := false }
def LogSwapsSaid : Prop := logSwapsRow.holds Try.pinned (OpenSpec.ofChange logSwapsSpec)

/-- ITS FALSE NEIGHBOUR: 'it returns false'. Refute it at one input. -/
def logSwapsWrong : ChangeSpec := { name := "logSwaps", fn := fun _ => fun
  | [d1, d2, d3] => { results := [.lit (.bool false)], args := [d1, d2, d3] }
  | _ => none }
def LogSwapsWrongFalsely : Prop := logSwapsRow.holds Try.pinned (OpenSpec.ofChange logSwapsWrong)

/-- 'lapidarylaw13.LogParts': WHATEVER THE INPUT: true; the input reads as it did. -/
def logPartsSpec : ChangeSpec := { name := "logParts", fn := fun _ => fun
  | [d1, d2, d3] => { results := [.lit (.bool true)], args := [d1, d2, d3] }
  | _ => none }
def logPartsRow : OpenClaim := { program := "ytdkpadiaikfdpaa", sum := "5f930d7d73d47b01f91ada6263adcd6a0759cb9c546d1cee8f12fb080614e875", func := "lapidary/lapidarylaw13.LogParts", spec := "logParts", unfollowed := true, recurses := true, apart := false }
def LogPartsSaid : Prop := logPartsRow.holds Try.pinned (OpenSpec.ofChange logPartsSpec)

/-- ITS FALSE NEIGHBOUR: 'it returns false'. Refute it at one input. -/
def logPartsWrong : ChangeSpec := { name := "logParts", fn := fun _ => fun
  | [d1, d2, d3] => { results := [.lit (.bool false)], args := [d1, d2, d3] }
  | _ => none }
def LogPartsWrongFalsely : Prop := logPartsRow.holds Try.pinned (OpenSpec.ofChange logPartsWrong)

/-- 'lapidarylaw13.LogPlaces': WHATEVER THE INPUT: true; the input reads as it did. -/
def logPlacesSpec : ChangeSpec := { name := "logPlaces", fn := fun _ => fun
  | [d1, d2, d3] => { results := [.lit (.bool true)], args := [d1, d2, d3] }
  | _ => none }
def logPlacesRow : OpenClaim := { program := "ytdkpadiaikfdpaa", sum := "5f930d7d73d47b01f91ada6263adcd6a0759cb9c546d1cee8f12fb080614e875", func := "lapidary/lapidarylaw13.LogPlaces", spec := "logPlaces", unfollowed := true, recurses := true, apart := false }
def LogPlacesSaid : Prop := logPlacesRow.holds Try.pinned (OpenSpec.ofChange logPlacesSpec)

/-- ITS FALSE NEIGHBOUR: 'it returns false'. Refute it at one input. -/
def logPlacesWrong : ChangeSpec := { name := "logPlaces", fn := fun _ => fun
  | [d1, d2, d3] => { results := [.lit (.bool false)], args := [d1, d2, d3] }
  | _ => none }
def LogPlacesWrongFalsely : Prop := logPlacesRow.holds Try.pinned (OpenSpec.ofChange logPlacesWrong)

/-- 'lapidarylaw13.LogThreads': WHATEVER THE INPUT: true; the input reads as it did. -/
def logThreadsSpec : ChangeSpec := { name := "logThreads", fn := fun _ => fun
  | [d] => { results := [.lit (.bool true)], args := [d] }
  | _ => none }
def logThreadsRow : OpenClaim := { program := "ytdkpadiaikfdpaa", sum := "5f930d7d73d47b01f91ada6263adcd6a0759cb9c546d1cee8f12fb080614e875", func := "lapidary/lapidarylaw13.LogThreads", spec := "logThreads", unfollowed := true, recurses := true, apart := false }
def LogThreadsSaid : Prop := logThreadsRow.holds Try.pinned (OpenSpec.ofChange logThreadsSpec)

/-- ITS FALSE NEIGHBOUR: 'it returns false'. Refute it at one input. -/
def logThreadsWrong : ChangeSpec := { name := "logThreads", fn := fun _ => fun
  | [d] => { results := [.lit (.bool false)], args := [d] }
  | _ => none }
def LogThreadsWrongFalsely : Prop := logThreadsRow.holds Try.pinned (OpenSpec.ofChange logThreadsWrong)

/- THE SECOND FORM. 'bulk': how many values and letters a reading holds, each counted each time it is reached (what is shared counts as often as it is met; a slice's spare places count too). A statement '..UptoSaid' is the law's where the arguments, and the package variables that the reading takes, are together of bulk at most 1048576: NARROWER than '..Said'. Prove '..Said' where nothing that the law and all that it calls make is longer than what came in: it says more and counts as full. Else prove '..UptoSaid'. A law counts once. -/
mutual
def uptoBulk {H : Type} : DataW H → Nat
  | .lit (.string bytes) => bytes.length + 1
  | .lit _ => 1
  | .nil => 1
  | .ptr d => uptoBulk d + 1
  | .slice elems spare => uptoBulkAll elems + uptoBulkAll spare + 1
  | .agg parts => uptoBulkAll parts + 1
  | .iface _ d => uptoBulk d + 1
  | .map entries => uptoBulkEntries entries + 1
  | .held _ => 1
def uptoBulkAll {H : Type} : List (DataW H) → Nat
  | [] => 0
  | d :: r => uptoBulk d + uptoBulkAll r
def uptoBulkEntries {H : Type} : List (Lit × DataW H) → Nat
  | [] => 0
  | x :: r => uptoBulkEntry x + uptoBulkEntries r
def uptoBulkEntry {H : Type} : Lit × DataW H → Nat
  | (.string bytes, d) => bytes.length + uptoBulk d + 1
  | (_, d) => uptoBulk d + 1
 end
def uptoSmall : (H : Type) → List (DataW H) → Bool := fun _ ds => decide (uptoBulkAll ds ≤ 1048576)
def OpenSpec.upto (s : _root_.Go.ChangeSpec) : _root_.Go.OpenSpec := { _root_.Go.OpenSpec.ofChange s with cond := some uptoSmall }

/-- 'lapidarylaw13.LogWrong', WHERE WHAT IT READS IS OF BULK AT MOST 1048576: true; the input reads as it did. -/
def logWrongUptoRow : OpenClaim := { program := "ytdkpadiaikfdpaa", sum := "5f930d7d73d47b01f91ada6263adcd6a0759cb9c546d1cee8f12fb080614e875", func := "lapidary/lapidarylaw13.LogWrong", spec := "logWrong", unfollowed := true, recurses := true, apart := false, narrowed := true }
def LogWrongUptoSaid : Prop := logWrongUptoRow.holds Try.pinned (OpenSpec.upto logWrongSpec)

/-- 'lapidarylaw13.LogLasts', WHERE WHAT IT READS IS OF BULK AT MOST 1048576: true; the input reads as it did. -/
def logLastsUptoRow : OpenClaim := { program := "ytdkpadiaikfdpaa", sum := "5f930d7d73d47b01f91ada6263adcd6a0759cb9c546d1cee8f12fb080614e875", func := "lapidary/lapidarylaw13.LogLasts", spec := "logLasts", unfollowed := true, recurses := true, apart := false, narrowed := true }
def LogLastsUptoSaid : Prop := logLastsUptoRow.holds Try.pinned (OpenSpec.upto logLastsSpec)

/-- 'lapidarylaw13.LogSwaps', WHERE WHAT IT READS IS OF BULK AT MOST 1048576: true; the input reads as it did. -/
def logSwapsUptoRow : OpenClaim := { program := "ytdkpadiaikfdpaa", sum := "5f930d7d73d47b01f91ada6263adcd6a0759cb9c546d1cee8f12fb080614e875", func := "lapidary/lapidarylaw13.LogSwaps", spec := "logSwaps", unfollowed := true, recurses := true, apart := false, narrowed := true }
def LogSwapsUptoSaid : Prop := logSwapsUptoRow.holds Try.pinned (OpenSpec.upto logSwapsSpec)

/-- 'lapidarylaw13.LogParts', WHERE WHAT IT READS IS OF BULK AT MOST 1048576: true; the input reads as it did. -/
def logPartsUptoRow : OpenClaim := { program := "ytdkpadiaikfdpaa", sum := "5f930d7d73d47b01f91ada6263adcd6a0759cb9c546d1cee8f12fb080614e875", func := "lapidary/lapidarylaw13.LogParts", spec := "logParts", unfollowed := true, recurses := true, apart := false, narrowed := true }
def LogPartsUptoSaid : Prop := logPartsUptoRow.holds Try.pinned (OpenSpec.upto logPartsSpec)

/-- 'lapidarylaw13.LogPlaces', WHERE WHAT IT READS IS OF BULK AT MOST 1048576: true; the input reads as it did. -/
def logPlacesUptoRow : OpenClaim := { program := "ytdkpadiaikfdpaa", sum := "5f930d7d73d47b01f91ada6263adcd6a0759cb9c546d1cee8f12fb080614e875", func := "lapidary/lapidarylaw13.LogPlaces", spec := "logPlaces", unfollowed := true, recurses := true, apart := false, narrowed := true }
def LogPlacesUptoSaid : Prop := logPlacesUptoRow.holds Try.pinned (OpenSpec.upto logPlacesSpec)

/-- 'lapidarylaw13.LogThreads', WHERE WHAT IT READS IS OF BULK AT MOST 1048576: true; the input reads as it did. -/
def logThreadsUptoRow : OpenClaim := { program := "ytdkpadiaikfdpaa", sum := "5f930d7d73d47b01f91ada6263adcd6a0759cb9c546d1cee8f12fb080614e875", func := "lapidary/lapidarylaw13.LogThreads", spec := "logThreads", unfollowed := true, recurses := true, apart := false, narrowed := true }
def LogThreadsUptoSaid : Prop := logThreadsUptoRow.holds Try.pinned (OpenSpec.upto logThreadsSpec)

end Rows
end Go.Proofs.Ytdkpadiaikfdpaa
