/- Regions that draw their order: the class of the later worlds, as a type, so that the kit's cheap quiet walk serves. No program in sight. -/
import Derived.Test.YtbkaopeajjechaaQc
namespace Go.Proofs.Ytbkaopeajjechaa
set_option linter.unusedVariables false
set_option linter.unusedSimpArgs false
open Go.RowKit

/-- A world in which all that w has is as it was. -/
structure Later (w : World) where
  val : World
  ok : Below w.heap.size w val

instance (w : World) : Nonempty (Later w) := ⟨⟨w, Below.refl _ _⟩⟩

theorem Later.iff {w U : World} : (∃ s : Later w, U = s.val) ↔ Below w.heap.size w U := ⟨fun ⟨s, e⟩ => e ▸ s.ok, fun h => ⟨⟨U, h⟩, rfl⟩⟩

theorem wp_region_later {P : Program} (w0 : World) {id : Nat} {Q : Exit → Act → World → Prop} {a : Act} {w : World} {l : List Oper} (hm : P.follows .mixedOrders = true) (hB : Region.lexB .any l.toArray = true) (hC : Below w0.heap.size w0 w.drew)
    (h : wpQuiet P l.toArray (fun U => ∃ s : Later w0, U = s.val) (fun a' => ∀ w', Below w0.heap.size w0 w' → Q .normal a' w') l a) : (Code.region id l.toArray true).wp P Q a w := by
  refine wp_region_quiet (C := fun U => ∃ s : Later w0, U = s.val) hm hB (Later.iff.2 hC) ?_
  have e : (fun a' => ∀ w', (fun U => ∃ s : Later w0, U = s.val) w' → Q .normal a' w') = (fun a' => ∀ w', Below w0.heap.size w0 w' → Q .normal a' w') := funext fun a' => propext ⟨fun hh w' hw => hh w' (Later.iff.2 hw), fun hh w' hw => hh w' (Later.iff.1 hw)⟩
  rw [e]
  simpa using h

theorem later_call {P : Program} {f : FuncId} {args : Array Value} {w : World} {s : Later w} {v : Value} (h : Calls P f args s.val fun e w' => e = .returned v ∧ Below s.val.heap.size s.val w') :
    Calls P f args s.val fun e w'' => e = .returned v ∧ ∃ s' : Later w, w'' = s'.val :=
  h.mono fun _ _ ⟨he, hb⟩ => ⟨he, ⟨_, s.ok.trans (hb.mono s.ok.size)⟩, rfl⟩

theorem later_same {P : Program} {f : FuncId} {args : Array Value} {w : World} {s : Later w} {v : Value} (h : Calls P f args s.val fun e w' => e = .returned v ∧ s.val = w') :
    Calls P f args s.val fun e w'' => e = .returned v ∧ ∃ s' : Later w, w'' = s'.val :=
  h.mono fun _ _ ⟨he, hb⟩ => ⟨he, s, hb.symm⟩

theorem Later.cell {w : World} {p : Addr} {v : Value} (hp : p.block < w.heap.size) (h : w.cell? p = some v) (s : Later w) : s.val.cell? p = some v := (s.ok.cell hp).trans h
end Go.Proofs.Ytbkaopeajjechaa
