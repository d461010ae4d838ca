/- Package history: one call's cells in the midst of a row; lists that are the same. -/
import Derived.Test.YtahfoogcdgjimaaHsN
import Derived.Test.YtahfoogcdgjimaaQl
namespace Go.Proofs.Ytahfoogcdgjimaa
set_option linter.unusedVariables false
set_option linter.unusedSimpArgs false
open Go.RowKit

/-- A call's cells, from o on. -/
def CAt (W : World) (g o : Nat) (a : Nat → Int) (b d : Bool) : Prop := W.cell? ⟨g, o, none⟩ = some (.int .i64 (a 0)) ∧ W.cell? ⟨g, o + 1, none⟩ = some (.int .i64 (a 1)) ∧ W.cell? ⟨g, o + 2, none⟩ = some (.int .i64 (a 2)) ∧ W.cell? ⟨g, o + 3, none⟩ = some (.int .i64 (a 3)) ∧ W.cell? ⟨g, o + 4, none⟩ = some (.int .i64 (a 4)) ∧ W.cell? ⟨g, o + 5, none⟩ = some (.int .i64 (a 5)) ∧ W.cell? ⟨g, o + 6, none⟩ = some (.int .i64 (a 6)) ∧ W.cell? ⟨g, o + 7, none⟩ = some (.int .i64 (a 7)) ∧ W.cell? ⟨g, o + 8, none⟩ = some (.int .i64 (a 8)) ∧ W.cell? ⟨g, o + 9, none⟩ = some (.int .i64 (a 9)) ∧ W.cell? ⟨g, o + 10, none⟩ = some (.bool b) ∧ W.cell? ⟨g, o + 11, none⟩ = some (.int .i64 (a 11)) ∧ W.cell? ⟨g, o + 12, none⟩ = some (.int .i64 (a 12)) ∧ W.cell? ⟨g, o + 13, none⟩ = some (.int .i64 (a 13)) ∧ W.cell? ⟨g, o + 14, none⟩ = some (.bool d)

theorem CAt.keep {W U : World} {g o : Nat} {a : Nat → Int} {b d : Bool} (H : CAt W g o a b d) (hg : g < W.heap.size) (h : Below W.heap.size W U) : CAt U g o a b d := by
  have e : ∀ j, U.cell? ⟨g, j, none⟩ = W.cell? ⟨g, j, none⟩ := fun j => h.cell (p := ⟨g, j, none⟩) hg
  unfold CAt at H ⊢
  simp only [e]
  exact H

theorem later_cat {w : World} {g o : Nat} {a : Nat → Int} {b d : Bool} (hg : g < w.heap.size) (H : CAt w g o a b d) : ∀ U, (∃ s : Later w, U = s.val) → CAt U g o a b d :=
  fun _ ⟨s, e⟩ => e ▸ H.keep hg s.ok

/-- A whole call is loaded, in a drawn region: in every world of the class it is the same. -/
theorem quiet_loadC {C : World → Prop} {op : Oper} {A : Act} {K : Act → Prop} (x : Operand) (ho : op.op = .load 36 x) (g o : Nat) (hx : A.eval x = .pointer (some ⟨g, o, none⟩)) (a : Nat → Int) (b d : Bool)
    (hc : ∀ U, C U → CAt U g o a b d) (hk : K (A.put op.dst (.agg #[.int .i64 (a 0), .int .i64 (a 1), .int .i64 (a 2), .int .i64 (a 3), .int .i64 (a 4), .int .i64 (a 5), .int .i64 (a 6), .int .i64 (a 7), .int .i64 (a 8), .int .i64 (a 9), .bool b, .int .i64 (a 11), .int .i64 (a 12), .int .i64 (a 13), .bool d]))) : op.quiet Try.prog A C K := by
  refine ⟨_, fun U hU => ?_, hk⟩
  obtain ⟨y0, y1, y2, y3, y4, y5, y6, y7, y8, y9, y10, y11, y12, y13, y14⟩ := hc U hU
  unfold Oper.quietAt execOp
  simp only [ho, hx]
  go_simp

theorem same10_self (A B : Option Addr) (c d : Nat) (L : List Int) (hn : L.length ≤ 1000) (w : World) (H1 : RdL w .i64 A L) (H2 : RdL w .i64 B L) :
    Calls Try.prog 14 #[.slice A L.length c, .slice B L.length d] w fun e w' => e = .returned (.bool true) ∧ Below w.heap.size w w' := by
  have h := same10_any A B c d L L hn hn w H1 H2
  rw [show decide (L = L) = true by simp] at h
  exact h
end Go.Proofs.Ytahfoogcdgjimaa
