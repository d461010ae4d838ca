/- Regions that draw their order, whose operations keep to a class of worlds: one walk serves every order. No program in sight. -/
import Derived.Test.YtbkaopeajjechaaLk
import Derived.BigQuiet
import Derived.Deep.DeepCutAuto
namespace Go.Proofs.Ytbkaopeajjechaa
set_option linter.unusedVariables false
set_option linter.unusedSimpArgs false
open Go.RowKit

/-- The kit's theorem at whatever class. -/
theorem wp_region_class {P : Program} (C : World → Prop) {id : Nat} {Q : Exit → Act → World → Prop} {a : Act} {w : World} {l : List Oper} (hm : P.follows .mixedOrders = true) (hB : Region.lexB .any l.toArray = true) (hC : C w.drew)
    (h : wpQuiet P l.toArray C (fun a' => ∀ w', C w' → Q .normal a' w') l a) : (Code.region id l.toArray true).wp P Q a w :=
  wp_region_quiet (C := C) hm hB hC (by simpa using h)

theorem quiet_op {P : Program} {C : World → Prop} {o : Oper} {a : Act} {K : Act → Prop} (h : ∃ v, (∀ U, C U → Oper.quietUpon P C U v ((execOp a.eval o).run P U)) ∧ K (a.put o.dst v)) : o.quiet P a C K := h

/-- A callee's contract, met in a world of the class. -/
theorem class_call {P : Program} {f : FuncId} {args : Array Value} {W U : World} {v : Value} (hU : Below W.heap.size W U) (h : Calls P f args U fun e w' => e = .returned v ∧ Below U.heap.size U w') :
    Calls P f args U fun e w' => e = .returned v ∧ Below W.heap.size W w' :=
  h.mono fun _ _ ⟨he, hb⟩ => ⟨he, hU.trans (hb.mono hU.size)⟩
/-- A region of a function's body, by its number. -/
def findReg (n : Nat) : Code → Option Code
  | .region i ops b => if i = n then some (.region i ops b) else none
  | .seq a b => match findReg n a with
    | some c => some c
    | none => findReg n b
  | .block _ c => findReg n c
  | .loop c => findReg n c
  | .scope c => findReg n c
  | .cond _ a b => match findReg n a with
    | some c => some c
    | none => findReg n b
  | _ => none

/-- .. of a callee that leaves the world alone. -/
theorem class_same {P : Program} {f : FuncId} {args : Array Value} {W U : World} {v : Value} (hU : Below W.heap.size W U) (h : Calls P f args U fun e w' => e = .returned v ∧ U = w') :
    Calls P f args U fun e w' => e = .returned v ∧ Below W.heap.size W w' :=
  h.mono fun _ _ ⟨he, hb⟩ => ⟨he, by rw [← hb]; exact hU⟩
end Go.Proofs.Ytbkaopeajjechaa
