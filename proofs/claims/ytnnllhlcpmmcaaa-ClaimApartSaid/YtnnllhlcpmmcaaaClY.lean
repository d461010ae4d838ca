/- The laws of layer 14: machines in a slice, and what is kept of each. -/
import Derived.Test.YtnnllhlcpmmcaaaClX
import Derived.Deep.AppendLies
import Derived.Laws.OwnMore
import Derived.Deep.RegionHeld3
namespace Go.Proofs.Ytnnllhlcpmmcaaa
set_option linter.unusedVariables false
set_option linter.unusedSimpArgs false
open Go.RowKit

theorem one_new (w : World) (v : Value) (t : TypeId) : ∀ j u, [v][j]? = some u → (w.alloc (.cells #[v] t)).cell? ((⟨w.heap.size, 0, none⟩ : Addr).add j) = some u := by
  intro j u hj
  match j, hj with
  | 0, hj =>
    obtain rfl : v = u := by simpa using hj
    exact (World.cell?_alloc_new w _ _ _).trans rfl

theorem ownsRow_below {base : Nat} {e : TypeId} {k : Nat} {v : Value} {n : Nat} {xs : List Value} {w w' : World} (h : w.ownsRow base e k v n xs) (hb : Below w.heap.size w w') : w'.ownsRow base e k v n xs :=
  h.kept (row := none) ⟨hb.os, hb.tape, hb.output, hb.size, fun i hi _ => hb.block i hi⟩ (by
    cases e : v.ownBlock with
    | none => exact .inl rfl
    | some r => exact .inr (by simp))

def fupd {α : Type} (f : Nat → α) (j : Nat) (v : α) : Nat → α := fun i => if i = j then v else f i
theorem fupd_same {α : Type} (f : Nat → α) (j : Nat) (v : α) : fupd f j v j = v := if_pos rfl
theorem fupd_other {α : Type} (f : Nat → α) {j i : Nat} (v : α) (h : i ≠ j) : fupd f j v i = f i := if_neg h

/-- Pointers to machines, and the machines. -/
def MachL (W : World) (v : Value) (base k : Nat) (ms : Nat → Nat) (qs : Nat → Ask) : Prop :=
  W.ownsRow base 30 1 v k ((List.range k).map fun j => .pointer (some ⟨ms j, 0, none⟩)) ∧ (∀ j, j < k → IsM W (ms j) (newMc.c (qs j)) ∧ base ≤ ms j) ∧ ∀ i j, i < k → j < i → ms i ≠ ms j

theorem MachL.keep {w W : World} {v : Value} {base k : Nat} {ms : Nat → Nat} {qs : Nat → Ask} (H : MachL w v base k ms qs) (hb : Below w.heap.size w W) : MachL W v base k ms qs :=
  ⟨ownsRow_below H.1 hb, fun j hj => ⟨(H.2.1 j hj).1.keep hb, (H.2.1 j hj).2⟩, H.2.2⟩

/-- The slice opened. -/
theorem MachL.open_ {W : World} {v : Value} {base L : Nat} {ms : Nat → Nat} {qs : Nat → Ask} (H : MachL W v base L ms qs) :
    ∃ Av C, v = .slice Av L C ∧ L ≤ C ∧ Mach W Av L ms qs (fun _ => newMc) ∧ ∀ j, j < L → ∀ B, Av = some ⟨B, 0, none⟩ → base ≤ B ∧ B ≠ ms j := by
  obtain ⟨h1, h2, h3⟩ := H
  have hcell : ∀ g C, v = .slice (some ⟨g, 0, none⟩) L C → ∀ j, j < L → W.cell? ⟨g, j, none⟩ = some (.pointer (some ⟨ms j, 0, none⟩)) := fun g C hv j hj => by
    have hk := h1.cells (g := g) (by rw [hv]; rfl) j (.pointer (some ⟨ms j, 0, none⟩)) (by rw [List.getElem?_map, List.getElem?_range hj]; rfl)
    rw [show (⟨g, 0, none⟩ : Addr).add j = ⟨g, 0 + j, none⟩ from by unfold Addr.add; split <;> simp_all] at hk
    rwa [Nat.zero_add] at hk
  rcases h1.2 with ⟨hv, hL⟩ | ⟨g, C, cur, hv, hb, hg, hC, _, _, _⟩
  · subst hL
    exact ⟨none, 0, hv, Nat.le_refl _, fun j hj => absurd hj (by omega), fun j hj => absurd hj (by omega)⟩
  · have hgl : g < W.heap.size := by
      rcases Nat.lt_or_ge g W.heap.size with h | h
      · exact h
      · rw [Array.getElem?_eq_none h] at hg; cases hg
    refine ⟨_, C, hv, hC, fun j hj => ⟨⟨g, rfl, hgl, hcell g C hv j hj⟩, (h2 j hj).1, newMc_ok⟩, fun j hj B e => ?_⟩
    injection e with e
    injection e with e _ _
    subst e
    refine ⟨hb, fun e => ?_⟩
    have c1 := hcell g C hv 0 (by omega)
    have c2 := ((h2 j hj).1.2 0 (by omega)).1
    rw [← e, c1] at c2
    injection c2 with c2
    exact absurd c2 (by unfold Mc.c mkC; simp)

/-- One machine has gone on. -/
theorem Mach.step {w W : World} {Av : Option Addr} {L j : Nat} {ms : Nat → Nat} {qs : Nat → Ask} {Ms : Nat → Mc} {M' : Mc} (H : Mach w Av L ms qs Ms) (hc : Chg (fun i => i = ms j) w W) (hI : IsM W (ms j) (M'.c (qs j))) (hM : M'.ok)
    (hB : ∀ B, Av = some ⟨B, 0, none⟩ → B ≠ ms j) (hinj : ∀ i, i < L → i ≠ j → ms i ≠ ms j) : Mach W Av L ms qs (fupd Ms j M') := fun i hi => by
  obtain ⟨⟨B, e, hBl, hBc⟩, hIi, hk⟩ := H i hi
  refine ⟨⟨B, e, Nat.lt_of_lt_of_le hBl hc.size, (hc.cell hBl (hB B e)).trans hBc⟩, ?_⟩
  by_cases he : i = j
  · subst he
    rw [fupd_same]
    exact ⟨hI, hM⟩
  · rw [fupd_other _ _ he]
    exact ⟨hIi.chg hc (hinj i hi he), hk⟩

theorem Mach.chg {T : Nat → Prop} {w W : World} {Av : Option Addr} {L : Nat} {ms : Nat → Nat} {qs : Nat → Ask} {Ms : Nat → Mc} (H : Mach w Av L ms qs Ms) (hc : Chg T w W) (hB : ∀ B, Av = some ⟨B, 0, none⟩ → ¬ T B) (hm : ∀ i, i < L → ¬ T (ms i)) : Mach W Av L ms qs Ms := fun i hi => by
  obtain ⟨⟨B, e, hBl, hBc⟩, hIi, hk⟩ := H i hi
  exact ⟨⟨B, e, Nat.lt_of_lt_of_le hBl hc.size, (hc.cell hBl (hB B e)).trans hBc⟩, hIi.chg hc (hm i hi), hk⟩

/-- Cells in a block of the call's own. -/
def Cs (W : World) (b L : Nat) (f : Nat → Value) : Prop := b < W.heap.size ∧ ∀ j, j < L → W.cell? ⟨b, j, none⟩ = some (f j) ∧ W.frozen? ⟨b, j, none⟩ = false
theorem Cs.chg {S : Nat → Prop} {w W : World} {b n : Nat} {f : Nat → Value} (H : Cs w b n f) (h : Chg S w W) (hS : ¬ S b) : Cs W b n f :=
  ⟨Nat.lt_of_lt_of_le H.1 h.size, fun i hi => ⟨(h.cell H.1 hS).trans (H.2 i hi).1, (h.frozen H.1 hS).trans (H.2 i hi).2⟩⟩
theorem Cs.keep {w W : World} {b n : Nat} {f : Nat → Value} (H : Cs w b n f) (hb : Below w.heap.size w W) : Cs W b n f := H.chg (S := fun _ => False) (Chg.of hb) (fun e => e)
theorem Cs.set {W : World} {b n i : Nat} {f : Nat → Value} (H : Cs W b n f) (v : Value) : Cs (W.setCell ⟨b, i, none⟩ v) b n (fupd f i v) :=
  ⟨by simpa using H.1, fun j hj => ⟨by
    by_cases e : j = i
    · subst e
      rw [World.cell?_setCell_same _ _ _ (H.2 j hj).1, fupd_same]
    · rw [World.cell?_setCell_other _ _ _ _ (fun x => by injection x with _ x _; omega), fupd_other _ _ e]
      exact (H.2 j hj).1, by rw [World.frozen?_setCell]; exact (H.2 j hj).2⟩⟩
theorem Cs.congr {W : World} {b n : Nat} {f f' : Nat → Value} (H : Cs W b n f) (h : ∀ j, j < n → f j = f' j) : Cs W b n f' := ⟨H.1, fun j hj => by rw [← h j hj]; exact H.2 j hj⟩
theorem Cs.made (w : World) (z : Value) (n : Nat) (t : TypeId) : Cs (w.alloc (.cells (madeCells #[z] n) t)) w.heap.size n (fun _ => z) :=
  ⟨by simp, fun i hi => ⟨made_cell w z n t i hi, by go_simp⟩⟩
end Go.Proofs.Ytnnllhlcpmmcaaa
