/-
  No cell of these rows narrows 'for every input' (looked for: loops, veiled, ifaces, maps, wideKeys, modest, calm, conditions, laid).
  DERIVED. THE GIVEN ROWS OF THIS SEAT. 6 by the template 'for every input the law returns true; each argument reads behind the call as it read before'; 0 by the template 'total and deterministic' (their statements: YthkfcleigidihaaTotals.lean).
  GIVEN WITH THE SEED: the statements are not yours to turn. If you find one false, say at which input.
  Laid BY PROGRAM, IN A SANDBOX (cutbox-rows.mjs): the forced cells as the released guide's own fill.sh prints them over the translation 923fc4988cc9e3d2… (all of the seat's roots in one cut). By AI agents, Wed Nov 11 2026. No macro, syntax, notation, axiom, sorry.
-/
import Derived.Test.YthkfcleigidihaaChecked
import GoSem.Claim
import GoSem.ClaimJoined
import GoSem.ClaimMapViews
import Derived.JoinedTies
import Derived.KernelRfl
namespace Go.Proofs.Ythkfcleigidihaa
/- THE CELL 'sum', in the pinned program and in every row, IS THE sha256 OF THE DUMP (.gsa) THAT YthkfcleigidihaaProg.lean LOADS. Nothing in Lean hashes anything: it is a label: what it is worth is what the hold of that sum in a sandbox is worth. -/
noncomputable def Try.pinned : Pinned := { name := "ythkfcleigidihaa", sum := "923fc4988cc9e3d210a1d26582c3301e5a912d8e05f3672658c958e894ddc627", checked := Try.checked }
namespace Rows
def none {H : Type} : Left H := { results := [], args := [] }

/-- 'lapidarylaw02.PackRequests': WHATEVER THE INPUT: true; the input reads as it did. -/
def packRequestsSpec : ChangeSpec := { name := "packRequests", fn := fun _ => fun
  | [d1, d2] => { results := [.lit (.bool true)], args := [d1, d2] }
  | _ => none }
def packRequestsRow : OpenClaim := { program := "ythkfcleigidihaa", sum := "923fc4988cc9e3d210a1d26582c3301e5a912d8e05f3672658c958e894ddc627", func := "lapidary/lapidarylaw02.PackRequests", spec := "packRequests", apart := false }
def PackRequestsSaid : Prop := packRequestsRow.holds Try.pinned (OpenSpec.ofChange packRequestsSpec)

/-- ITS FALSE NEIGHBOUR: 'it returns false'. Refute it at one input. -/
def packRequestsWrong : ChangeSpec := { name := "packRequests", fn := fun _ => fun
  | [d1, d2] => { results := [.lit (.bool false)], args := [d1, d2] }
  | _ => none }
def PackRequestsWrongFalsely : Prop := packRequestsRow.holds Try.pinned (OpenSpec.ofChange packRequestsWrong)

/-- 'lapidarylaw02.PackTurns': WHATEVER THE INPUT: true; the input reads as it did. -/
def packTurnsSpec : ChangeSpec := { name := "packTurns", fn := fun _ => fun
  | [d1, d2] => { results := [.lit (.bool true)], args := [d1, d2] }
  | _ => none }
def packTurnsRow : OpenClaim := { program := "ythkfcleigidihaa", sum := "923fc4988cc9e3d210a1d26582c3301e5a912d8e05f3672658c958e894ddc627", func := "lapidary/lapidarylaw02.PackTurns", spec := "packTurns", apart := false }
def PackTurnsSaid : Prop := packTurnsRow.holds Try.pinned (OpenSpec.ofChange packTurnsSpec)

/-- ITS FALSE NEIGHBOUR: 'it returns false'. Refute it at one input. -/
def packTurnsWrong : ChangeSpec := { name := "packTurns", fn := fun _ => fun
  | [d1, d2] => { results := [.lit (.bool false)], args := [d1, d2] }
  | _ => none }
def PackTurnsWrongFalsely : Prop := packTurnsRow.holds Try.pinned (OpenSpec.ofChange packTurnsWrong)

/-- 'lapidarylaw02.PackNames': WHATEVER THE INPUT: true; the input reads as it did. -/
def packNamesSpec : ChangeSpec := { name := "packNames", fn := fun _ => fun
  | [d] => { results := [.lit (.bool true)], args := [d] }
  | _ => none }
def packNamesRow : OpenClaim := { program := "ythkfcleigidihaa", sum := "923fc4988cc9e3d210a1d26582c3301e5a912d8e05f3672658c958e894ddc627", func := "lapidary/lapidarylaw02.PackNames", spec := "packNames", apart := false }
def PackNamesSaid : Prop := packNamesRow.holds Try.pinned (OpenSpec.ofChange packNamesSpec)

/-- ITS FALSE NEIGHBOUR: 'it returns false'. Refute it at one input. -/
def packNamesWrong : ChangeSpec := { name := "packNames", fn := fun _ => fun
  | [d] => { results := [.lit (.bool false)], args := [d] }
  | _ => none }
def PackNamesWrongFalsely : Prop := packNamesRow.holds Try.pinned (OpenSpec.ofChange packNamesWrong)

/-- 'lapidarylaw02.PackClaims': WHATEVER THE INPUT: true; the input reads as it did. -/
def packClaimsSpec : ChangeSpec := { name := "packClaims", fn := fun _ => fun
  | [d1, d2, d3, d4] => { results := [.lit (.bool true)], args := [d1, d2, d3, d4] }
  | _ => none }
def packClaimsRow : OpenClaim := { program := "ythkfcleigidihaa", sum := "923fc4988cc9e3d210a1d26582c3301e5a912d8e05f3672658c958e894ddc627", func := "lapidary/lapidarylaw02.PackClaims", spec := "packClaims", apart := false }
def PackClaimsSaid : Prop := packClaimsRow.holds Try.pinned (OpenSpec.ofChange packClaimsSpec)

/-- ITS FALSE NEIGHBOUR: 'it returns false'. Refute it at one input. -/
def packClaimsWrong : ChangeSpec := { name := "packClaims", fn := fun _ => fun
  | [d1, d2, d3, d4] => { results := [.lit (.bool false)], args := [d1, d2, d3, d4] }
  | _ => none }
def PackClaimsWrongFalsely : Prop := packClaimsRow.holds Try.pinned (OpenSpec.ofChange packClaimsWrong)

/-- 'lapidarylaw02.PackApart': WHATEVER THE INPUT: true; the input reads as it did. -/
def packApartSpec : ChangeSpec := { name := "packApart", fn := fun _ => fun
  | [d1, d2] => { results := [.lit (.bool true)], args := [d1, d2] }
  | _ => none }
def packApartRow : OpenClaim := { program := "ythkfcleigidihaa", sum := "923fc4988cc9e3d210a1d26582c3301e5a912d8e05f3672658c958e894ddc627", func := "lapidary/lapidarylaw02.PackApart", spec := "packApart", apart := false }
def PackApartSaid : Prop := packApartRow.holds Try.pinned (OpenSpec.ofChange packApartSpec)

/-- ITS FALSE NEIGHBOUR: 'it returns false'. Refute it at one input. -/
def packApartWrong : ChangeSpec := { name := "packApart", fn := fun _ => fun
  | [d1, d2] => { results := [.lit (.bool false)], args := [d1, d2] }
  | _ => none }
def PackApartWrongFalsely : Prop := packApartRow.holds Try.pinned (OpenSpec.ofChange packApartWrong)

/-- 'lapidarylaw02.PackFronts': WHATEVER THE INPUT: true; the input reads as it did. -/
def packFrontsSpec : ChangeSpec := { name := "packFronts", fn := fun _ => fun
  | [d1, d2] => { results := [.lit (.bool true)], args := [d1, d2] }
  | _ => none }
def packFrontsRow : OpenClaim := { program := "ythkfcleigidihaa", sum := "923fc4988cc9e3d210a1d26582c3301e5a912d8e05f3672658c958e894ddc627", func := "lapidary/lapidarylaw02.PackFronts", spec := "packFronts", unfollowed := true, recurses := true, apart := false }
def PackFrontsSaid : Prop := packFrontsRow.holds Try.pinned (OpenSpec.ofChange packFrontsSpec)

/-- ITS FALSE NEIGHBOUR: 'it returns false'. Refute it at one input. -/
def packFrontsWrong : ChangeSpec := { name := "packFronts", fn := fun _ => fun
  | [d1, d2] => { results := [.lit (.bool false)], args := [d1, d2] }
  | _ => none }
def PackFrontsWrongFalsely : Prop := packFrontsRow.holds Try.pinned (OpenSpec.ofChange packFrontsWrong)

/- THE SECOND FORM. 'bulk': how many values and letters a reading holds, each counted each time it is reached (what is shared counts as often as it is met; a slice's spare places count too). A statement '..UptoSaid' is the law's where the arguments, and the package variables that the reading takes, are together of bulk at most 1048576: NARROWER than '..Said'. Prove '..Said' where nothing that the law and all that it calls make is longer than what came in: it says more and counts as full. Else prove '..UptoSaid'. A law counts once. -/
mutual
def uptoBulk {H : Type} : DataW H → Nat
  | .lit (.string bytes) => bytes.length + 1
  | .lit _ => 1
  | .nil => 1
  | .ptr d => uptoBulk d + 1
  | .slice elems spare => uptoBulkAll elems + uptoBulkAll spare + 1
  | .agg parts => uptoBulkAll parts + 1
  | .iface _ d => uptoBulk d + 1
  | .map entries => uptoBulkEntries entries + 1
  | .held _ => 1
def uptoBulkAll {H : Type} : List (DataW H) → Nat
  | [] => 0
  | d :: r => uptoBulk d + uptoBulkAll r
def uptoBulkEntries {H : Type} : List (Lit × DataW H) → Nat
  | [] => 0
  | x :: r => uptoBulkEntry x + uptoBulkEntries r
def uptoBulkEntry {H : Type} : Lit × DataW H → Nat
  | (.string bytes, d) => bytes.length + uptoBulk d + 1
  | (_, d) => uptoBulk d + 1
 end
def uptoSmall : (H : Type) → List (DataW H) → Bool := fun _ ds => decide (uptoBulkAll ds ≤ 1048576)
def OpenSpec.upto (s : _root_.Go.ChangeSpec) : _root_.Go.OpenSpec := { _root_.Go.OpenSpec.ofChange s with cond := some uptoSmall }

/-- 'lapidarylaw02.PackRequests', WHERE WHAT IT READS IS OF BULK AT MOST 1048576: true; the input reads as it did. -/
def packRequestsUptoRow : OpenClaim := { program := "ythkfcleigidihaa", sum := "923fc4988cc9e3d210a1d26582c3301e5a912d8e05f3672658c958e894ddc627", func := "lapidary/lapidarylaw02.PackRequests", spec := "packRequests", apart := false, narrowed := true }
def PackRequestsUptoSaid : Prop := packRequestsUptoRow.holds Try.pinned (OpenSpec.upto packRequestsSpec)

/-- 'lapidarylaw02.PackTurns', WHERE WHAT IT READS IS OF BULK AT MOST 1048576: true; the input reads as it did. -/
def packTurnsUptoRow : OpenClaim := { program := "ythkfcleigidihaa", sum := "923fc4988cc9e3d210a1d26582c3301e5a912d8e05f3672658c958e894ddc627", func := "lapidary/lapidarylaw02.PackTurns", spec := "packTurns", apart := false, narrowed := true }
def PackTurnsUptoSaid : Prop := packTurnsUptoRow.holds Try.pinned (OpenSpec.upto packTurnsSpec)

/-- 'lapidarylaw02.PackNames', WHERE WHAT IT READS IS OF BULK AT MOST 1048576: true; the input reads as it did. -/
def packNamesUptoRow : OpenClaim := { program := "ythkfcleigidihaa", sum := "923fc4988cc9e3d210a1d26582c3301e5a912d8e05f3672658c958e894ddc627", func := "lapidary/lapidarylaw02.PackNames", spec := "packNames", apart := false, narrowed := true }
def PackNamesUptoSaid : Prop := packNamesUptoRow.holds Try.pinned (OpenSpec.upto packNamesSpec)

/-- 'lapidarylaw02.PackClaims', WHERE WHAT IT READS IS OF BULK AT MOST 1048576: true; the input reads as it did. -/
def packClaimsUptoRow : OpenClaim := { program := "ythkfcleigidihaa", sum := "923fc4988cc9e3d210a1d26582c3301e5a912d8e05f3672658c958e894ddc627", func := "lapidary/lapidarylaw02.PackClaims", spec := "packClaims", apart := false, narrowed := true }
def PackClaimsUptoSaid : Prop := packClaimsUptoRow.holds Try.pinned (OpenSpec.upto packClaimsSpec)

/-- 'lapidarylaw02.PackApart', WHERE WHAT IT READS IS OF BULK AT MOST 1048576: true; the input reads as it did. -/
def packApartUptoRow : OpenClaim := { program := "ythkfcleigidihaa", sum := "923fc4988cc9e3d210a1d26582c3301e5a912d8e05f3672658c958e894ddc627", func := "lapidary/lapidarylaw02.PackApart", spec := "packApart", apart := false, narrowed := true }
def PackApartUptoSaid : Prop := packApartUptoRow.holds Try.pinned (OpenSpec.upto packApartSpec)

/-- 'lapidarylaw02.PackFronts', WHERE WHAT IT READS IS OF BULK AT MOST 1048576: true; the input reads as it did. -/
def packFrontsUptoRow : OpenClaim := { program := "ythkfcleigidihaa", sum := "923fc4988cc9e3d210a1d26582c3301e5a912d8e05f3672658c958e894ddc627", func := "lapidary/lapidarylaw02.PackFronts", spec := "packFronts", unfollowed := true, recurses := true, apart := false, narrowed := true }
def PackFrontsUptoSaid : Prop := packFrontsUptoRow.holds Try.pinned (OpenSpec.upto packFrontsSpec)

end Rows
end Go.Proofs.Ythkfcleigidihaa
