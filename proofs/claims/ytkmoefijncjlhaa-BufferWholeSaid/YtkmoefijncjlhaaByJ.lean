/- Buffers that are claimed as they want it: what a round keeps. No walk. -/
import Derived.Test.YtkmoefijncjlhaaByI
namespace Go.Proofs.Ytkmoefijncjlhaa
set_option linter.unusedVariables false
set_option linter.unusedSimpArgs false
open Go.RowKit

/-- What a round of BufferWhole keeps: how far words are claimed, how many are had, the buffer, which words are had. -/
def Inv (nx sm ba lf : Int) (h : Nat → Bool) : Prop := rgt 1 1000 1 S1 0 ba lf ∧ lf < 16 ∧ 5 ≤ nx ∧ nx ≤ 1000 ∧ sm + lf = nx - 5 ∧ 0 ≤ sm ∧ (lf ≠ 0 → 5 ≤ ba ∧ ba + lf ≤ nx) ∧
  ∀ j : Nat, h j = true → (j : Int) < nx ∧ ¬ (lf ≠ 0 ∧ ba ≤ (j : Int) ∧ (j : Int) < ba + lf)

def upH (h : Nat → Bool) (at_ n : Int) (j : Nat) : Bool := h j || decide (at_ ≤ (j : Int) ∧ (j : Int) < at_ + n)

/-- n words from a place on are had next. -/
def Step (sm : Int) (h : Nat → Bool) (n at_ nx ba lf : Int) : Prop := 5 ≤ at_ ∧ at_ + n ≤ 1100 ∧ (∀ j : Nat, at_ ≤ (j : Int) → (j : Int) < at_ + n → h j = false) ∧ Inv nx (sm + n) ba lf (upH h at_ n)

theorem step_take {nx sm ba lf n : Int} {h : Nat → Bool} (H : Inv nx sm ba lf h) (h1 : 1 ≤ n) (h2 : n ≤ lf) : Step sm h n ba nx (rsA (ba + n) (lf - n)) (lf - n) := by
  obtain ⟨g1, g2, g3, g4, g5, g6, g7, g8⟩ := H
  have q := g7 (by omega)
  refine ⟨q.1, by omega, fun j a b => ?_, ?_, by omega, g3, g4, by omega, by omega, fun h0 => ?_, fun j hj => ?_⟩
  · cases e : h j with
    | false => rfl
    | true => exact absurd ⟨by omega, a, by omega⟩ (g8 j e).2
  · obtain ⟨r1, r2, r3, r4, r5⟩ := g1
    refine ⟨r1, r2, by omega, fun h0 => by unfold rsA; rw [if_pos h0], fun h0 => ?_⟩
    obtain ⟨w1, w2, w3, w4, w5, w6⟩ := r5 (by omega)
    have e : rsA (ba + n) (lf - n) = ba + n := by unfold rsA; rw [if_neg h0]
    rw [e]
    exact ⟨w1, w2, by omega, by omega, by omega, by omega⟩
  · have e : rsA (ba + n) (lf - n) = ba + n := by unfold rsA; rw [if_neg h0]
    rw [e]; omega
  · unfold upH at hj
    simp only [Bool.or_eq_true, decide_eq_true_eq] at hj
    rcases hj with hj | hj
    · refine ⟨(g8 j hj).1, fun ⟨h0, a, b⟩ => (g8 j hj).2 ?_⟩
      have e : rsA (ba + n) (lf - n) = ba + n := by unfold rsA; rw [if_neg h0]
      rw [e] at a b
      exact ⟨by omega, by omega, by omega⟩
    · refine ⟨by omega, fun ⟨h0, a, b⟩ => ?_⟩
      have e : rsA (ba + n) (lf - n) = ba + n := by unfold rsA; rw [if_neg h0]
      rw [e] at a b
      omega

theorem step_same {nx sm ba lf n : Int} {h : Nat → Bool} (H : Inv nx sm ba lf h) (h1 : 1 ≤ n) (h2 : nx + n ≤ 1000) : Step sm h n nx (nx + n) ba lf := by
  obtain ⟨g1, g2, g3, g4, g5, g6, g7, g8⟩ := H
  refine ⟨g3, by omega, fun j a b => ?_, g1, g2, by omega, h2, by omega, by omega, fun h0 => by have := g7 h0; omega, fun j hj => ?_⟩
  · cases e : h j with
    | false => rfl
    | true => have := (g8 j e).1; omega
  · unfold upH at hj
    simp only [Bool.or_eq_true, decide_eq_true_eq] at hj
    rcases hj with hj | hj
    · exact ⟨by have := (g8 j hj).1; omega, (g8 j hj).2⟩
    · exact ⟨by omega, fun ⟨h0, a, b⟩ => by have := g7 h0; omega⟩

theorem step_more {nx sm ba n : Int} {h : Nat → Bool} (H : Inv nx sm ba 0 h) (h1 : 1 ≤ n) (h3 : n < 16) (h2 : nx + 16 ≤ 1000) : Step sm h n nx (nx + 16) (rsA (nx + n) (16 - n)) (16 - n) := by
  obtain ⟨g1, g2, g3, g4, g5, g6, g7, g8⟩ := H
  have e : rsA (nx + n) (16 - n) = nx + n := by unfold rsA; rw [if_neg (by omega)]
  rw [e]
  refine ⟨g3, by omega, fun j a b => ?_, ?_, by omega, by omega, h2, by omega, by omega, fun h0 => by omega, fun j hj => ?_⟩
  · cases e : h j with
    | false => rfl
    | true => have := (g8 j e).1; omega
  · have hb : bas 1 1000 0 = 5 := by decide
    exact ⟨g1.1, g1.2.1, by omega, fun h0 => by omega, fun _ => ⟨g1.1, g1.2.1, by omega, by omega, by rw [hb]; omega, by rw [hb]; omega⟩⟩
  · unfold upH at hj
    simp only [Bool.or_eq_true, decide_eq_true_eq] at hj
    rcases hj with hj | hj
    · have := (g8 j hj).1
      exact ⟨by omega, fun ⟨h0, a, b⟩ => by omega⟩
    · exact ⟨by omega, fun ⟨h0, a, b⟩ => by omega⟩

/-- An array of truths. -/
def ArB (W : World) (g n : Nat) (f : Nat → Bool) : Prop := g < W.heap.size ∧ ∀ i, i < n → W.cell? ⟨g, i, none⟩ = some (.bool (f i)) ∧ W.frozen? ⟨g, i, none⟩ = false

theorem ArB.keep {w W : World} {g n : Nat} {f : Nat → Bool} (h : ArB w g n f) (hb : Below w.heap.size w W) : ArB W g n f :=
  ⟨Nat.lt_of_lt_of_le h.1 hb.size, fun i hi => ⟨(hb.cell (p := ⟨g, i, none⟩) h.1).trans (h.2 i hi).1, (hb.frozen (p := ⟨g, i, none⟩) h.1).trans (h.2 i hi).2⟩⟩
theorem ArB.congr {w : World} {g n : Nat} {f f' : Nat → Bool} (h : ArB w g n f) (e : ∀ i, i < n → f i = f' i) : ArB w g n f' := ⟨h.1, fun i hi => by rw [← e i hi]; exact h.2 i hi⟩
theorem ArB.set {w : World} {g n : Nat} {f : Nat → Bool} (h : ArB w g n f) {q : Nat} (hq : q < n) (v : Bool) : ArB (w.setCell ⟨g, q, none⟩ (.bool v)) g n (fun i => if i = q then v else f i) :=
  ⟨by simpa using h.1, fun i hi => ⟨by
    by_cases e : i = q
    · subst e
      rw [World.cell?_setCell_same _ _ _ (h.2 i hi).1]
      simp
    · rw [World.cell?_setCell_other _ _ _ _ (fun x => by injection x with _ x _; omega)]
      simpa [e] using (h.2 i hi).1, by rw [World.frozen?_setCell]; exact (h.2 i hi).2⟩⟩
theorem ArB.far {w : World} {g g' n q : Nat} {f : Nat → Bool} (h : ArB w g n f) (hg : g' ≠ g) (v : Value) : ArB (w.setCell ⟨g', q, none⟩ v) g n f :=
  ⟨by simpa using h.1, fun i hi => ⟨by
    rw [World.cell?_setCell_other _ _ _ _ (fun x => by injection x with x _ _; omega)]
    exact (h.2 i hi).1, by rw [World.frozen?_setCell]; exact (h.2 i hi).2⟩⟩

/-- A buffer's three cells, which may be written. -/
def Bf (W : World) (p : Nat) (a l : Int) : Prop := (W.cell? ⟨p, 0, none⟩ = some (.int .i64 0) ∧ W.cell? ⟨p, 1, none⟩ = some (.int .i64 a) ∧ W.cell? ⟨p, 2, none⟩ = some (.int .i64 l)) ∧
  (W.frozen? ⟨p, 0, none⟩ = false ∧ W.frozen? ⟨p, 1, none⟩ = false ∧ W.frozen? ⟨p, 2, none⟩ = false)

theorem Bf.keep {W U : World} {p : Nat} {a l : Int} (H : Bf W p a l) (h1 : p < W.heap.size) (hb : Below W.heap.size W U) : Bf U p a l := by
  have e : ∀ j, U.cell? ⟨p, j, none⟩ = W.cell? ⟨p, j, none⟩ := fun j => hb.cell (p := ⟨p, j, none⟩) h1
  have e1 : ∀ j, U.frozen? ⟨p, j, none⟩ = W.frozen? ⟨p, j, none⟩ := fun j => hb.frozen (p := ⟨p, j, none⟩) h1
  unfold Bf at H ⊢
  simp only [e, e1]
  exact H
theorem Bf.set {W : World} {p : Nat} {a l : Int} (H : Bf W p a l) (a2 l2 : Int) : Bf (((W.setCell ⟨p, 0, none⟩ (.int .i64 0)).setCell ⟨p, 1, none⟩ (.int .i64 a2)).setCell ⟨p, 2, none⟩ (.int .i64 l2)) p a2 l2 := by
  obtain ⟨⟨a0, a1, a2'⟩, b0, b1, b2⟩ := H
  refine ⟨⟨?_, ?_, ?_⟩, ?_, ?_, ?_⟩ <;> go_simp
theorem Bf.far {W : World} {p g q : Nat} {a l : Int} (H : Bf W p a l) (h : p ≠ g) (v : Value) : Bf (W.setCell ⟨g, q, none⟩ v) p a l := by
  have e : ∀ j, (W.setCell ⟨g, q, none⟩ v).cell? ⟨p, j, none⟩ = W.cell? ⟨p, j, none⟩ := fun j => World.cell?_setCell_other _ _ _ _ (fun e => h (by injection e with e _ _; exact e.symm))
  have e1 : ∀ j, (W.setCell ⟨g, q, none⟩ v).frozen? ⟨p, j, none⟩ = W.frozen? ⟨p, j, none⟩ := fun j => World.frozen?_setCell ..
  unfold Bf at H ⊢
  simp only [e, e1]
  exact H

theorem giveS {nx sm ba lf n : Int} {h : Nat → Bool} (H : Inv nx sm ba lf h) (h1 : 1 ≤ n) (h1b : n ≤ 20) (h2 : nx + n ≤ 1000) (A : Option Addr) (W : World) (HS : ShOk W A 1 S1) :
    Calls Try.prog 19 #[.agg #[.int .i64 1, .int .i64 1000, .slice A 1 1], .agg #[.int .i64 0, .int .i64 ba, .int .i64 lf], .agg #[.int .i64 0, .int .i64 nx, .int .i64 n], .int .i64 n] W
      fun e w' => e = .returned (.tuple #[.agg #[.int .i64 0, .int .i64 ba, .int .i64 lf], .int .i64 0]) ∧ Below W.heap.size W w' := by
  obtain ⟨g1, g2, g3, g4, g5, g6, g7, g8⟩ := H
  have hb : bas 1 1000 0 = 5 := by decide
  have hl0 := g1.2.2.1
  have hba : ba ≤ 9223372036854775807 := by
    by_cases h0 : lf = 0
    · have := g1.2.2.2.1 h0; omega
    · have := g7 h0; omega
  exact give_any 1 1000 A 1 1 S1 (by omega) s1_sz 0 ba lf 0 nx n n hba (by omega) W HS true (hide (gv_iff.2 ⟨g1, ⟨h1, rfl, by omega⟩, ⟨g1.1, .inl rfl, by omega, by omega, by rw [hb]; omega, by rw [hb]; omega⟩, .inl rfl⟩)) _ _ _ _ (.inr (.inl ⟨rfl, rfl, rfl, rfl, rfl, rfl⟩))

theorem giveM {nx sm ba n : Int} {h : Nat → Bool} (H : Inv nx sm ba 0 h) (h1 : 1 ≤ n) (h1b : n < 16) (h2 : nx + 16 ≤ 1000) (A : Option Addr) (W : World) (HS : ShOk W A 1 S1) :
    Calls Try.prog 19 #[.agg #[.int .i64 1, .int .i64 1000, .slice A 1 1], .agg #[.int .i64 0, .int .i64 ba, .int .i64 0], .agg #[.int .i64 0, .int .i64 nx, .int .i64 16], .int .i64 n] W
      fun e w' => e = .returned (.tuple #[.agg #[.int .i64 0, .int .i64 (rsA (nx + n) (16 - n)), .int .i64 (16 - n)], .int .i64 0]) ∧ Below W.heap.size W w' := by
  obtain ⟨g1, g2, g3, g4, g5, g6, g7, g8⟩ := H
  have hb : bas 1 1000 0 = 5 := by decide
  have hba := g1.2.2.2.1 rfl
  exact give_any 1 1000 A 1 1 S1 (by omega) s1_sz 0 ba 0 0 nx 16 n (by omega) (by omega) W HS true (hide (gv_iff.2 ⟨g1, ⟨h1, rfl, by omega⟩, ⟨g1.1, .inl rfl, by omega, by omega, by rw [hb]; omega, by rw [hb]; omega⟩, .inr rfl⟩)) _ _ _ _ (.inr (.inr ⟨rfl, by omega, by omega, rfl, rfl, rfl, rfl⟩))

theorem inv_ba {nx sm ba lf : Int} {h : Nat → Bool} (H : Inv nx sm ba lf h) : ba ≤ 9223372036854775807 := by
  obtain ⟨g1, g2, g3, g4, g5, g6, g7, g8⟩ := H
  have hl0 := g1.2.2.1
  by_cases h0 : lf = 0
  · have := g1.2.2.2.1 h0; omega
  · have := g7 h0; omega

theorem takeS {nx sm ba lf n : Int} {h : Nat → Bool} (H : Inv nx sm ba lf h) (h1 : 1 ≤ n) (h2 : n ≤ lf) (A : Option Addr) (W : World) (HS : ShOk W A 1 S1) :
    Calls Try.prog 15 #[.agg #[.int .i64 1, .int .i64 1000, .slice A 1 1], .agg #[.int .i64 0, .int .i64 ba, .int .i64 lf], .int .i64 n] W
      fun e w' => e = .returned (.tuple #[.agg #[.int .i64 0, .int .i64 (rsA (ba + n) (lf - n)), .int .i64 (lf - n)], .int .i64 ba, .int .i64 0]) ∧ Below W.heap.size W w' :=
  take_ok 1 1000 A 1 1 S1 (by omega) s1_sz 0 ba lf n (inv_ba H) (rgtB_iff.2 H.1) h1 h2 W HS

theorem chkS {nx sm ba lf : Int} {h : Nat → Bool} (H : Inv nx sm ba lf h) (A : Option Addr) (W : World) (HS : ShOk W A 1 S1) :
    Calls Try.prog 13 #[.agg #[.int .i64 1, .int .i64 1000, .slice A 1 1], .agg #[.int .i64 0, .int .i64 ba, .int .i64 lf]] W fun e w' => e = .returned (.int .i64 0) ∧ Below W.heap.size W w' := by
  have q := byChk_any 1 1000 A 1 1 S1 (by omega) s1_sz 0 ba lf (inv_ba H) W HS
  rw [if_pos (rgtB_iff.2 H.1)] at q
  exact q
end Go.Proofs.Ytkmoefijncjlhaa
