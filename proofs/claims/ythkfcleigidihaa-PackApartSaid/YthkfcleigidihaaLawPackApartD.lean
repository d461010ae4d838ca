/- What the walk of PackApart stands on: claims that go well, and claims that do not. -/
import Derived.Test.YthkfcleigidihaaPkW
import Derived.Test.YthkfcleigidihaaOp
import Derived.Test.YthkfcleigidihaaLawPackClaimsW
import Derived.Deep.RegionHeld3
namespace Go.Proofs.Ythkfcleigidihaa
set_option linter.unusedVariables false
set_option linter.unusedSimpArgs false
open Go.RowKit

def clOk (s l h o space n : Int) : Bool := rightB s l h o && inB 1 [space] && decide (1 ≤ n) && fitsB s l h o n

theorem claim_bad (s l h o space n : Int) (hn : clOk s l h o space n = false) : ((claimF s l h o space n).e != 0) = true := by
  unfold claimF
  unfold clOk at hn
  by_cases h1 : (rightB s l h o && inB 1 [space] && decide (1 ≤ n)) = true
  · rw [h1, Bool.true_and] at hn
    rw [if_pos h1, hn]
    rfl
  · rw [if_neg h1]
    rfl

theorem claim_same (s l h o n : Int) (hn : clOk s l h o s n = true) (w : World) :
    Calls Try.prog 19 #[.agg #[.int .i64 s, .int .i64 l, .int .i64 h, .int .i64 o], .int .i64 s, .int .i64 n] w fun e w' => e = .returned (.tuple #[.agg #[.int .i64 s, .int .i64 (l + n), .int .i64 h, .int .i64 o], .int .i64 l, .int .i64 0]) ∧ Below w.heap.size w w' := by
  have k := claim_any s l h o s n w
  simp only [clOk, Bool.and_eq_true] at hn
  have e : claimF s l h o s n = ⟨s, l + n, h, o, l, 0⟩ := by
    unfold claimF
    rw [if_pos (by simp only [hn.1.1.1, hn.1.1.2, hn.1.2, Bool.and_true]), if_pos hn.2, if_pos rfl]
  rw [e] at k
  exact k

theorem claim_other (s l h o space n : Int) (hs : space ≠ s) (hn : clOk s l h o space n = true) (w : World) :
    Calls Try.prog 19 #[.agg #[.int .i64 s, .int .i64 l, .int .i64 h, .int .i64 o], .int .i64 space, .int .i64 n] w fun e w' => e = .returned (.tuple #[.agg #[.int .i64 s, .int .i64 l, .int .i64 h, .int .i64 (o + n)], .int .i64 o, .int .i64 0]) ∧ Below w.heap.size w w' := by
  have k := claim_any s l h o space n w
  simp only [clOk, Bool.and_eq_true] at hn
  have e : claimF s l h o space n = ⟨s, l, h, o + n, o, 0⟩ := by
    unfold claimF
    rw [if_pos (by simp only [hn.1.1.1, hn.1.1.2, hn.1.2, Bool.and_true]), if_pos hn.2, if_neg hs]
  rw [e] at k
  exact k

theorem clOk_iff {s l h o space n : Int} : clOk s l h o space n = true ↔ rightB s l h o = true ∧ (0 ≤ space ∧ space ≤ 1) ∧ 1 ≤ n ∧ n ≤ h - l - o := by
  simp only [clOk, Bool.and_eq_true, inB1_iff, decide_eq_true_eq, fitsB_iff]
  constructor
  · rintro ⟨⟨⟨h1, h2⟩, h3⟩, _, _, h4⟩
    exact ⟨h1, h2, h3, h4⟩
  · rintro ⟨h1, h2, h3, h4⟩
    exact ⟨⟨⟨h1, h2⟩, h3⟩, h1, h3, h4⟩

theorem usedOf (s l h o : Int) (hr : rightB s l h o = true) (w : World) :
    Calls Try.prog 21 #[.agg #[.int .i64 s, .int .i64 l, .int .i64 h, .int .i64 o], .int .i64 4096] w fun e w' => e = .returned (.tuple #[.int .i64 (l + 4096 - h + o), .int .i64 0]) ∧ Below w.heap.size w w' := by
  have k := used_any s l h o 4096 w
  have hb := rightB_iff.1 hr
  have hu : usedOk s l h o 4096 = true := by simp [usedOk, hr]; omega
  rwa [show usedV s l h o 4096 = l + 4096 - h + o by simp [usedV, hu], show usedE s l h o 4096 = 0 by simp [usedE, hu]] at k

/-- The frontier's cells, and how far each space is claimed: what a round of PackApart keeps. -/
def Apart (s h : Int) (bx bn : Nat) (l o n0 n1 : Int) (W : World) : Prop :=
  (W.cell? ⟨bx, 0, none⟩ = some (.int .i64 s) ∧ W.cell? ⟨bx, 1, none⟩ = some (.int .i64 l) ∧ W.cell? ⟨bx, 2, none⟩ = some (.int .i64 h) ∧ W.cell? ⟨bx, 3, none⟩ = some (.int .i64 o)) ∧
  (W.frozen? ⟨bx, 0, none⟩ = false ∧ W.frozen? ⟨bx, 1, none⟩ = false ∧ W.frozen? ⟨bx, 2, none⟩ = false ∧ W.frozen? ⟨bx, 3, none⟩ = false) ∧
  (W.cell? ⟨bn, 0, none⟩ = some (.int .i64 n0) ∧ W.cell? ⟨bn, 1, none⟩ = some (.int .i64 n1)) ∧
  (W.frozen? ⟨bn, 0, none⟩ = false ∧ W.frozen? ⟨bn, 1, none⟩ = false)

theorem Apart.keep {s h : Int} {bx bn : Nat} {l o n0 n1 : Int} {W B : World} (H : Apart s h bx bn l o n0 n1 W) (hx : bx < W.heap.size) (hn : bn < W.heap.size) (hb : Below W.heap.size W B) : Apart s h bx bn l o n0 n1 B := by
  obtain ⟨⟨a0, a1, a2, a3⟩, ⟨b0, b1, b2, b3⟩, ⟨c0, c1⟩, d0, d1⟩ := H
  have X := fun j => hb.cell (p := ⟨bx, j, none⟩) hx
  have XF := fun j => hb.frozen (p := ⟨bx, j, none⟩) hx
  have N := fun j => hb.cell (p := ⟨bn, j, none⟩) hn
  have NF := fun j => hb.frozen (p := ⟨bn, j, none⟩) hn
  exact ⟨⟨(X 0).trans a0, (X 1).trans a1, (X 2).trans a2, (X 3).trans a3⟩, ⟨(XF 0).trans b0, (XF 1).trans b1, (XF 2).trans b2, (XF 3).trans b3⟩, ⟨(N 0).trans c0, (N 1).trans c1⟩, (NF 0).trans d0, (NF 1).trans d1⟩

theorem Apart.far {s h : Int} {bx bn : Nat} {l o n0 n1 : Int} {W : World} (H : Apart s h bx bn l o n0 n1 W) (g i : Nat) (hx : bx ≠ g) (hn : bn ≠ g) (v : Value) : Apart s h bx bn l o n0 n1 (W.setCell ⟨g, i, none⟩ v) := by
  obtain ⟨⟨a0, a1, a2, a3⟩, ⟨b0, b1, b2, b3⟩, ⟨c0, c1⟩, d0, d1⟩ := H
  have X : ∀ j, (W.setCell ⟨g, i, none⟩ v).cell? ⟨bx, j, none⟩ = W.cell? ⟨bx, j, none⟩ := fun j => World.cell?_setCell_other _ _ _ _ (fun e => hx (by injection e with e _ _; exact e.symm))
  have N : ∀ j, (W.setCell ⟨g, i, none⟩ v).cell? ⟨bn, j, none⟩ = W.cell? ⟨bn, j, none⟩ := fun j => World.cell?_setCell_other _ _ _ _ (fun e => hn (by injection e with e _ _; exact e.symm))
  have XF : ∀ b j, (W.setCell ⟨g, i, none⟩ v).frozen? ⟨b, j, none⟩ = W.frozen? ⟨b, j, none⟩ := fun b j => World.frozen?_setCell ..
  exact ⟨⟨(X 0).trans a0, (X 1).trans a1, (X 2).trans a2, (X 3).trans a3⟩, ⟨(XF _ 0).trans b0, (XF _ 1).trans b1, (XF _ 2).trans b2, (XF _ 3).trans b3⟩, ⟨(N 0).trans c0, (N 1).trans c1⟩, (XF _ 0).trans d0, (XF _ 1).trans d1⟩

theorem Apart.step0 {s h : Int} {bx bn : Nat} {l o n0 n1 : Int} {W : World} (H : Apart s h bx bn l o n0 n1 W) (hne : bx ≠ bn) (l2 o2 v : Int) :
    Apart s h bx bn l2 o2 v n1 (((((W.setCell ⟨bn, 0, none⟩ (.int .i64 v)).setCell ⟨bx, 0, none⟩ (.int .i64 s)).setCell ⟨bx, 1, none⟩ (.int .i64 l2)).setCell ⟨bx, 2, none⟩ (.int .i64 h)).setCell ⟨bx, 3, none⟩ (.int .i64 o2)) := by
  obtain ⟨⟨a0, a1, a2, a3⟩, ⟨b0, b1, b2, b3⟩, ⟨c0, c1⟩, d0, d1⟩ := H
  have hne2 : bn ≠ bx := fun e => hne e.symm
  refine ⟨⟨?_, ?_, ?_, ?_⟩, ⟨?_, ?_, ?_, ?_⟩, ⟨?_, ?_⟩, ?_, ?_⟩ <;> go_simp

theorem Apart.step1 {s h : Int} {bx bn : Nat} {l o n0 n1 : Int} {W : World} (H : Apart s h bx bn l o n0 n1 W) (hne : bx ≠ bn) (l2 o2 v : Int) :
    Apart s h bx bn l2 o2 n0 v (((((W.setCell ⟨bn, 1, none⟩ (.int .i64 v)).setCell ⟨bx, 0, none⟩ (.int .i64 s)).setCell ⟨bx, 1, none⟩ (.int .i64 l2)).setCell ⟨bx, 2, none⟩ (.int .i64 h)).setCell ⟨bx, 3, none⟩ (.int .i64 o2)) := by
  obtain ⟨⟨a0, a1, a2, a3⟩, ⟨b0, b1, b2, b3⟩, ⟨c0, c1⟩, d0, d1⟩ := H
  have hne2 : bn ≠ bx := fun e => hne e.symm
  refine ⟨⟨?_, ?_, ?_, ?_⟩, ⟨?_, ?_, ?_, ?_⟩, ⟨?_, ?_⟩, ?_, ?_⟩ <;> go_simp

end Go.Proofs.Ythkfcleigidihaa
