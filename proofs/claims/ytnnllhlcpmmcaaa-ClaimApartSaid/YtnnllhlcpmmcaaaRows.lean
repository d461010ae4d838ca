/-
  No cell of these rows narrows 'for every input' (looked for: loops, veiled, ifaces, maps, wideKeys, modest, calm, conditions, laid).
  DERIVED. THE GIVEN ROWS OF THIS SEAT. 6 by the template 'for every input the law returns true; each argument reads behind the call as it read before'; 0 by the template 'total and deterministic' (their statements: YtnnllhlcpmmcaaaTotals.lean).
  GIVEN WITH THE SEED: the statements are not yours to turn. If you find one false, say at which input.
  Laid BY PROGRAM, IN A SANDBOX (cutbox-rows.mjs): the forced cells as the released guide's own fill.sh prints them over the translation 75981e144b133997… (all of the seat's roots in one cut). By AI agents, Wed Nov 11 2026. No macro, syntax, notation, axiom, sorry.
-/
import Derived.Test.YtnnllhlcpmmcaaaChecked
import GoSem.Claim
import GoSem.ClaimJoined
import GoSem.ClaimMapViews
import Derived.JoinedTies
import Derived.KernelRfl
namespace Go.Proofs.Ytnnllhlcpmmcaaa
/- THE CELL 'sum', in the pinned program and in every row, IS THE sha256 OF THE DUMP (.gsa) THAT YtnnllhlcpmmcaaaProg.lean LOADS. Nothing in Lean hashes anything: it is a label: what it is worth is what the hold of that sum in a sandbox is worth. -/
noncomputable def Try.pinned : Pinned := { name := "ytnnllhlcpmmcaaa", sum := "75981e144b1339976eeafbd2a87b9d103ef40c5de14b4a9c419ba324362e89f6", checked := Try.checked }
namespace Rows
def none {H : Type} : Left H := { results := [], args := [] }

/-- 'lapidarylaw14.ClaimTold': WHATEVER THE INPUT: true; the input reads as it did. -/
def claimToldSpec : ChangeSpec := { name := "claimTold", fn := fun _ => fun
  | [d1, d2, d3] => { results := [.lit (.bool true)], args := [d1, d2, d3] }
  | _ => none }
def claimToldRow : OpenClaim := { program := "ytnnllhlcpmmcaaa", sum := "75981e144b1339976eeafbd2a87b9d103ef40c5de14b4a9c419ba324362e89f6", func := "lapidary/lapidarylaw14.ClaimTold", spec := "claimTold", unfollowed := true, recurses := true, apart := false }
def ClaimToldSaid : Prop := claimToldRow.holds Try.pinned (OpenSpec.ofChange claimToldSpec)

/-- ITS FALSE NEIGHBOUR: 'it returns false'. Refute it at one input. -/
def claimToldWrong : ChangeSpec := { name := "claimTold", fn := fun _ => fun
  | [d1, d2, d3] => { results := [.lit (.bool false)], args := [d1, d2, d3] }
  | _ => none }
def ClaimToldWrongFalsely : Prop := claimToldRow.holds Try.pinned (OpenSpec.ofChange claimToldWrong)

/-- 'lapidarylaw14.ClaimApart': WHATEVER THE INPUT: true; the input reads as it did. -/
def claimApartSpec : ChangeSpec := { name := "claimApart", fn := fun _ => fun
  | [d1, d2, d3] => { results := [.lit (.bool true)], args := [d1, d2, d3] }
  | _ => none }
def claimApartRow : OpenClaim := { program := "ytnnllhlcpmmcaaa", sum := "75981e144b1339976eeafbd2a87b9d103ef40c5de14b4a9c419ba324362e89f6", func := "lapidary/lapidarylaw14.ClaimApart", spec := "claimApart", unfollowed := true, recurses := true, apart := false }
def ClaimApartSaid : Prop := claimApartRow.holds Try.pinned (OpenSpec.ofChange claimApartSpec)

/-- ITS FALSE NEIGHBOUR: 'it returns false'. Refute it at one input. -/
def claimApartWrong : ChangeSpec := { name := "claimApart", fn := fun _ => fun
  | [d1, d2, d3] => { results := [.lit (.bool false)], args := [d1, d2, d3] }
  | _ => none }
def ClaimApartWrongFalsely : Prop := claimApartRow.holds Try.pinned (OpenSpec.ofChange claimApartWrong)

/-- 'lapidarylaw14.ClaimFills': WHATEVER THE INPUT: true; the input reads as it did. -/
def claimFillsSpec : ChangeSpec := { name := "claimFills", fn := fun _ => fun
  | [d1, d2, d3] => { results := [.lit (.bool true)], args := [d1, d2, d3] }
  | _ => none }
def claimFillsRow : OpenClaim := { program := "ytnnllhlcpmmcaaa", sum := "75981e144b1339976eeafbd2a87b9d103ef40c5de14b4a9c419ba324362e89f6", func := "lapidary/lapidarylaw14.ClaimFills", spec := "claimFills", unfollowed := true, recurses := true, apart := false }
def ClaimFillsSaid : Prop := claimFillsRow.holds Try.pinned (OpenSpec.ofChange claimFillsSpec)

/-- ITS FALSE NEIGHBOUR: 'it returns false'. Refute it at one input. -/
def claimFillsWrong : ChangeSpec := { name := "claimFills", fn := fun _ => fun
  | [d1, d2, d3] => { results := [.lit (.bool false)], args := [d1, d2, d3] }
  | _ => none }
def ClaimFillsWrongFalsely : Prop := claimFillsRow.holds Try.pinned (OpenSpec.ofChange claimFillsWrong)

/-- 'lapidarylaw14.ClaimCopies': WHATEVER THE INPUT: true; the input reads as it did. -/
def claimCopiesSpec : ChangeSpec := { name := "claimCopies", fn := fun _ => fun
  | [d1, d2, d3, d4] => { results := [.lit (.bool true)], args := [d1, d2, d3, d4] }
  | _ => none }
def claimCopiesRow : OpenClaim := { program := "ytnnllhlcpmmcaaa", sum := "75981e144b1339976eeafbd2a87b9d103ef40c5de14b4a9c419ba324362e89f6", func := "lapidary/lapidarylaw14.ClaimCopies", spec := "claimCopies", unfollowed := true, recurses := true, apart := false }
def ClaimCopiesSaid : Prop := claimCopiesRow.holds Try.pinned (OpenSpec.ofChange claimCopiesSpec)

/-- ITS FALSE NEIGHBOUR: 'it returns false'. Refute it at one input. -/
def claimCopiesWrong : ChangeSpec := { name := "claimCopies", fn := fun _ => fun
  | [d1, d2, d3, d4] => { results := [.lit (.bool false)], args := [d1, d2, d3, d4] }
  | _ => none }
def ClaimCopiesWrongFalsely : Prop := claimCopiesRow.holds Try.pinned (OpenSpec.ofChange claimCopiesWrong)

/-- 'lapidarylaw14.ClaimNil': WHATEVER THE INPUT: true; the input reads as it did. -/
def claimNilSpec : ChangeSpec := { name := "claimNil", fn := fun _ => fun
  | [d] => { results := [.lit (.bool true)], args := [d] }
  | _ => none }
def claimNilRow : OpenClaim := { program := "ytnnllhlcpmmcaaa", sum := "75981e144b1339976eeafbd2a87b9d103ef40c5de14b4a9c419ba324362e89f6", func := "lapidary/lapidarylaw14.ClaimNil", spec := "claimNil", unfollowed := true, recurses := true, apart := false }
def ClaimNilSaid : Prop := claimNilRow.holds Try.pinned (OpenSpec.ofChange claimNilSpec)

/-- ITS FALSE NEIGHBOUR: 'it returns false'. Refute it at one input. -/
def claimNilWrong : ChangeSpec := { name := "claimNil", fn := fun _ => fun
  | [d] => { results := [.lit (.bool false)], args := [d] }
  | _ => none }
def ClaimNilWrongFalsely : Prop := claimNilRow.holds Try.pinned (OpenSpec.ofChange claimNilWrong)

/-- 'lapidarylaw14.ClaimAlone': WHATEVER THE INPUT: true; the input reads as it did. -/
def claimAloneSpec : ChangeSpec := { name := "claimAlone", fn := fun _ => fun
  | [d1, d2, d3] => { results := [.lit (.bool true)], args := [d1, d2, d3] }
  | _ => none }
def claimAloneRow : OpenClaim := { program := "ytnnllhlcpmmcaaa", sum := "75981e144b1339976eeafbd2a87b9d103ef40c5de14b4a9c419ba324362e89f6", func := "lapidary/lapidarylaw14.ClaimAlone", spec := "claimAlone", unfollowed := true, recurses := true, apart := false }
def ClaimAloneSaid : Prop := claimAloneRow.holds Try.pinned (OpenSpec.ofChange claimAloneSpec)

/-- ITS FALSE NEIGHBOUR: 'it returns false'. Refute it at one input. -/
def claimAloneWrong : ChangeSpec := { name := "claimAlone", fn := fun _ => fun
  | [d1, d2, d3] => { results := [.lit (.bool false)], args := [d1, d2, d3] }
  | _ => none }
def ClaimAloneWrongFalsely : Prop := claimAloneRow.holds Try.pinned (OpenSpec.ofChange claimAloneWrong)

/- THE SECOND FORM. 'bulk': how many values and letters a reading holds, each counted each time it is reached (what is shared counts as often as it is met; a slice's spare places count too). A statement '..UptoSaid' is the law's where the arguments, and the package variables that the reading takes, are together of bulk at most 1048576: NARROWER than '..Said'. Prove '..Said' where nothing that the law and all that it calls make is longer than what came in: it says more and counts as full. Else prove '..UptoSaid'. A law counts once. -/
mutual
def uptoBulk {H : Type} : DataW H → Nat
  | .lit (.string bytes) => bytes.length + 1
  | .lit _ => 1
  | .nil => 1
  | .ptr d => uptoBulk d + 1
  | .slice elems spare => uptoBulkAll elems + uptoBulkAll spare + 1
  | .agg parts => uptoBulkAll parts + 1
  | .iface _ d => uptoBulk d + 1
  | .map entries => uptoBulkEntries entries + 1
  | .held _ => 1
def uptoBulkAll {H : Type} : List (DataW H) → Nat
  | [] => 0
  | d :: r => uptoBulk d + uptoBulkAll r
def uptoBulkEntries {H : Type} : List (Lit × DataW H) → Nat
  | [] => 0
  | x :: r => uptoBulkEntry x + uptoBulkEntries r
def uptoBulkEntry {H : Type} : Lit × DataW H → Nat
  | (.string bytes, d) => bytes.length + uptoBulk d + 1
  | (_, d) => uptoBulk d + 1
 end
def uptoSmall : (H : Type) → List (DataW H) → Bool := fun _ ds => decide (uptoBulkAll ds ≤ 1048576)
def OpenSpec.upto (s : _root_.Go.ChangeSpec) : _root_.Go.OpenSpec := { _root_.Go.OpenSpec.ofChange s with cond := some uptoSmall }

/-- 'lapidarylaw14.ClaimTold', WHERE WHAT IT READS IS OF BULK AT MOST 1048576: true; the input reads as it did. -/
def claimToldUptoRow : OpenClaim := { program := "ytnnllhlcpmmcaaa", sum := "75981e144b1339976eeafbd2a87b9d103ef40c5de14b4a9c419ba324362e89f6", func := "lapidary/lapidarylaw14.ClaimTold", spec := "claimTold", unfollowed := true, recurses := true, apart := false, narrowed := true }
def ClaimToldUptoSaid : Prop := claimToldUptoRow.holds Try.pinned (OpenSpec.upto claimToldSpec)

/-- 'lapidarylaw14.ClaimApart', WHERE WHAT IT READS IS OF BULK AT MOST 1048576: true; the input reads as it did. -/
def claimApartUptoRow : OpenClaim := { program := "ytnnllhlcpmmcaaa", sum := "75981e144b1339976eeafbd2a87b9d103ef40c5de14b4a9c419ba324362e89f6", func := "lapidary/lapidarylaw14.ClaimApart", spec := "claimApart", unfollowed := true, recurses := true, apart := false, narrowed := true }
def ClaimApartUptoSaid : Prop := claimApartUptoRow.holds Try.pinned (OpenSpec.upto claimApartSpec)

/-- 'lapidarylaw14.ClaimFills', WHERE WHAT IT READS IS OF BULK AT MOST 1048576: true; the input reads as it did. -/
def claimFillsUptoRow : OpenClaim := { program := "ytnnllhlcpmmcaaa", sum := "75981e144b1339976eeafbd2a87b9d103ef40c5de14b4a9c419ba324362e89f6", func := "lapidary/lapidarylaw14.ClaimFills", spec := "claimFills", unfollowed := true, recurses := true, apart := false, narrowed := true }
def ClaimFillsUptoSaid : Prop := claimFillsUptoRow.holds Try.pinned (OpenSpec.upto claimFillsSpec)

/-- 'lapidarylaw14.ClaimCopies', WHERE WHAT IT READS IS OF BULK AT MOST 1048576: true; the input reads as it did. -/
def claimCopiesUptoRow : OpenClaim := { program := "ytnnllhlcpmmcaaa", sum := "75981e144b1339976eeafbd2a87b9d103ef40c5de14b4a9c419ba324362e89f6", func := "lapidary/lapidarylaw14.ClaimCopies", spec := "claimCopies", unfollowed := true, recurses := true, apart := false, narrowed := true }
def ClaimCopiesUptoSaid : Prop := claimCopiesUptoRow.holds Try.pinned (OpenSpec.upto claimCopiesSpec)

/-- 'lapidarylaw14.ClaimNil', WHERE WHAT IT READS IS OF BULK AT MOST 1048576: true; the input reads as it did. -/
def claimNilUptoRow : OpenClaim := { program := "ytnnllhlcpmmcaaa", sum := "75981e144b1339976eeafbd2a87b9d103ef40c5de14b4a9c419ba324362e89f6", func := "lapidary/lapidarylaw14.ClaimNil", spec := "claimNil", unfollowed := true, recurses := true, apart := false, narrowed := true }
def ClaimNilUptoSaid : Prop := claimNilUptoRow.holds Try.pinned (OpenSpec.upto claimNilSpec)

/-- 'lapidarylaw14.ClaimAlone', WHERE WHAT IT READS IS OF BULK AT MOST 1048576: true; the input reads as it did. -/
def claimAloneUptoRow : OpenClaim := { program := "ytnnllhlcpmmcaaa", sum := "75981e144b1339976eeafbd2a87b9d103ef40c5de14b4a9c419ba324362e89f6", func := "lapidary/lapidarylaw14.ClaimAlone", spec := "claimAlone", unfollowed := true, recurses := true, apart := false, narrowed := true }
def ClaimAloneUptoSaid : Prop := claimAloneUptoRow.holds Try.pinned (OpenSpec.upto claimAloneSpec)

end Rows
end Go.Proofs.Ytnnllhlcpmmcaaa
