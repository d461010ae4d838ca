/- What the rounds of PackApart keep: the frontier's cells, one store at a time. No walk. -/
import Derived.Test.YthkfcleigidihaaLawPackApartD
import Derived.Deep.DeepCutAuto
namespace Go.Proofs.Ythkfcleigidihaa
set_option linter.unusedVariables false
set_option linter.unusedSimpArgs false
open Go.RowKit

/-- Four cells of numbers. -/
def P4 (W : World) (p : Nat) (a b c d : Int) : Prop := W.cell? ⟨p, 0, none⟩ = some (.int .i64 a) ∧ W.cell? ⟨p, 1, none⟩ = some (.int .i64 b) ∧ W.cell? ⟨p, 2, none⟩ = some (.int .i64 c) ∧ W.cell? ⟨p, 3, none⟩ = some (.int .i64 d)

theorem P4.drew {W : World} {p : Nat} {a b c d : Int} (H : P4 W p a b c d) : P4 W.drew p a b c d := H
theorem P4.far {W : World} {p g i : Nat} {a b c d : Int} (H : P4 W p a b c d) (h : p ≠ g) (v : Value) : P4 (W.setCell ⟨g, i, none⟩ v) p a b c d := by
  have e : ∀ j, (W.setCell ⟨g, i, none⟩ v).cell? ⟨p, j, none⟩ = W.cell? ⟨p, j, none⟩ := fun j => World.cell?_setCell_other _ _ _ _ (fun e => h (by injection e with e _ _; exact e.symm))
  unfold P4 at H ⊢
  simp only [e]
  exact H

theorem Apart.drew {s h : Int} {bx bn : Nat} {l o n0 n1 : Int} {W : World} (H : Apart s h bx bn l o n0 n1 W) : Apart s h bx bn l o n0 n1 W.drew := H

theorem Apart.next0 {s h : Int} {bx bn : Nat} {l o n0 n1 : Int} {W : World} (H : Apart s h bx bn l o n0 n1 W) (hne : bx ≠ bn) (v : Int) : Apart s h bx bn l o v n1 (W.setCell ⟨bn, 0, none⟩ (.int .i64 v)) := by
  obtain ⟨⟨a0, a1, a2, a3⟩, ⟨b0, b1, b2, b3⟩, ⟨c0, c1⟩, d0, d1⟩ := H
  have hne2 : bn ≠ bx := fun e => hne e.symm
  refine ⟨⟨?_, ?_, ?_, ?_⟩, ⟨?_, ?_, ?_, ?_⟩, ⟨?_, ?_⟩, ?_, ?_⟩ <;> go_simp

theorem Apart.next1 {s h : Int} {bx bn : Nat} {l o n0 n1 : Int} {W : World} (H : Apart s h bx bn l o n0 n1 W) (hne : bx ≠ bn) (v : Int) : Apart s h bx bn l o n0 v (W.setCell ⟨bn, 1, none⟩ (.int .i64 v)) := by
  obtain ⟨⟨a0, a1, a2, a3⟩, ⟨b0, b1, b2, b3⟩, ⟨c0, c1⟩, d0, d1⟩ := H
  have hne2 : bn ≠ bx := fun e => hne e.symm
  refine ⟨⟨?_, ?_, ?_, ?_⟩, ⟨?_, ?_, ?_, ?_⟩, ⟨?_, ?_⟩, ?_, ?_⟩ <;> go_simp

theorem Apart.step {s h : Int} {bx bn : Nat} {l o n0 n1 : Int} {W : World} (H : Apart s h bx bn l o n0 n1 W) (hne : bx ≠ bn) (l2 o2 : Int) :
    Apart s h bx bn l2 o2 n0 n1 ((((W.setCell ⟨bx, 0, none⟩ (.int .i64 s)).setCell ⟨bx, 1, none⟩ (.int .i64 l2)).setCell ⟨bx, 2, none⟩ (.int .i64 h)).setCell ⟨bx, 3, none⟩ (.int .i64 o2)) := by
  obtain ⟨⟨a0, a1, a2, a3⟩, ⟨b0, b1, b2, b3⟩, ⟨c0, c1⟩, d0, d1⟩ := H
  have hne2 : bn ≠ bx := fun e => hne e.symm
  refine ⟨⟨?_, ?_, ?_, ?_⟩, ⟨?_, ?_, ?_, ?_⟩, ⟨?_, ?_⟩, ?_, ?_⟩ <;> go_simp
end Go.Proofs.Ythkfcleigidihaa
