/- Slices of whole numbers in memory, read as lists. No program in sight. -/
import Derived.Test.YtnnllhlcpmmcaaaLk
import Derived.Deep.AppendLies
import Derived.Laws.OwnMore
namespace Go.Proofs.Ytnnllhlcpmmcaaa
set_option linter.unusedVariables false
set_option linter.unusedSimpArgs false
open Go.RowKit

theorem one_new (w : World) (v : Value) (t : TypeId) : ∀ j u, [v][j]? = some u → (w.alloc (.cells #[v] t)).cell? ((⟨w.heap.size, 0, none⟩ : Addr).add j) = some u := by
  intro j u hj
  match j, hj with
  | 0, hj =>
    obtain rfl : v = u := by simpa using hj
    exact (World.cell?_alloc_new w _ _ _).trans rfl

theorem ownsRow_below {base : Nat} {e : TypeId} {k : Nat} {v : Value} {n : Nat} {xs : List Value} {w w' : World} (h : w.ownsRow base e k v n xs) (hb : Below w.heap.size w w') : w'.ownsRow base e k v n xs :=
  h.kept (row := none) ⟨hb.os, hb.tape, hb.output, hb.size, fun i hi _ => hb.block i hi⟩ (by
    cases e : v.ownBlock with
    | none => exact .inl rfl
    | some r => exact .inr (by simp))

/-- The slice reads as the list. -/
def RdL (w : World) (k : IntKind) (A : Option Addr) (L : List Int) : Prop :=
  0 < L.length → ∃ b o, A = some ⟨b, o, none⟩ ∧ b < w.heap.size ∧ ∀ i, i < L.length → w.cell? ⟨b, o + i, none⟩ = some (.int k (L.getD i 0))

theorem RdL.keep {w W : World} {k : IntKind} {A : Option Addr} {L : List Int} (H : RdL w k A L) (hb : Below w.heap.size w W) : RdL W k A L := fun h => by
  obtain ⟨b, o, hA, hl, hc⟩ := H h
  exact ⟨b, o, hA, Nat.lt_of_lt_of_le hl hb.size, fun i hi => (hb.cell (p := ⟨b, o + i, none⟩) hl).trans (hc i hi)⟩

theorem RdL.nil (w : World) (k : IntKind) (A : Option Addr) : RdL w k A [] := fun h => absurd h (by simp)

/-- A slice of the call's own reads as what it holds. -/
theorem RdL.of_own {w : World} {base : Nat} {e : TypeId} {k : IntKind} {v : Value} {L : List Int} (h : w.ownsRow base e 1 v L.length (L.map (Value.int k))) :
    ∃ A cap, v = .slice A L.length cap ∧ RdL w k A L := by
  by_cases h0 : L.length = 0
  · have hL : L = [] := List.eq_nil_of_length_eq_zero h0
    subst hL
    rcases h.2 with ⟨rfl, _⟩ | ⟨g, cap, cur, rfl, _⟩
    · exact ⟨none, 0, rfl, RdL.nil _ _ _⟩
    · exact ⟨_, cap, rfl, RdL.nil _ _ _⟩
  · obtain ⟨g, cap, rfl, hb, hlt⟩ := h.form (by omega)
    refine ⟨_, cap, rfl, fun _ => ⟨g, 0, rfl, hlt, fun i hi => ?_⟩⟩
    have hk := h.cells (g := g) rfl i (.int k (L.getD i 0)) (by
      rw [List.getElem?_map, List.getElem?_eq_getElem hi]
      simp [List.getD, hi])
    rw [show (⟨g, 0, none⟩ : Addr).add i = ⟨g, 0 + i, none⟩ from by unfold Addr.add; split <;> simp_all] at hk
    exact hk
end Go.Proofs.Ytnnllhlcpmmcaaa
