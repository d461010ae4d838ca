/- The walks of package arena: a word loaded, stored, compared and swapped; what is known of an arena in memory. -/
import Derived.Test.YtnnllhlcpmmcaaaArA
import Derived.Deep.RegionHeld3
import Derived.Laws.EntriesVeiled
namespace Go.Proofs.Ytnnllhlcpmmcaaa
set_option linter.unusedVariables false
set_option linter.unusedSimpArgs false
open Go.RowKit

/-- An arena: block g holds the slice, block h the words. -/
def IsAr (W : World) (g h n : Nat) (xs : Nat → Int) : Prop :=
  W.cell? ⟨g, 0, none⟩ = some (.slice (some ⟨h, 0, none⟩) n n) ∧ g < W.heap.size ∧ h < W.heap.size ∧ g ≠ h ∧ (1 ≤ n ∧ n ≤ 16384) ∧ ∀ i, i < n → W.cell? ⟨h, i, none⟩ = some (.int .u64 (xs i)) ∧ W.frozen? ⟨h, i, none⟩ = false

def upd (xs : Nat → Int) (i : Nat) (v : Int) : Nat → Int := fun j => if j = i then v else xs j

theorem IsAr.keep {w W : World} {g h n : Nat} {xs : Nat → Int} (H : IsAr w g h n xs) (hb : Below w.heap.size w W) : IsAr W g h n xs := by
  obtain ⟨h1, h2, h3, h4, h5, h6⟩ := H
  refine ⟨(hb.cell (p := ⟨g, 0, none⟩) h2).trans h1, Nat.lt_of_lt_of_le h2 hb.size, Nat.lt_of_lt_of_le h3 hb.size, h4, h5, fun i hi => ?_⟩
  exact ⟨(hb.cell (p := ⟨h, i, none⟩) h3).trans (h6 i hi).1, (hb.frozen (p := ⟨h, i, none⟩) h3).trans (h6 i hi).2⟩

theorem IsAr.store {w W : World} {g h n : Nat} {xs : Nat → Int} (H : IsAr w g h n xs) (hb : Below w.heap.size w W) {i : Nat} (hi : i < n) (v : Int) :
    IsAr (W.setCell ⟨h, i, none⟩ (.int .u64 v)) g h n (upd xs i v) := by
  obtain ⟨h1, h2, h3, h4, h5, h6⟩ := H.keep hb
  refine ⟨?_, by simpa using h2, by simpa using h3, h4, h5, fun j hj => ⟨?_, ?_⟩⟩
  · rw [World.cell?_setCell_other _ _ _ _ (fun e => h4 (by injection e with e _ _; exact e.symm))]
    exact h1
  · by_cases e : j = i
    · subst e
      rw [World.cell?_setCell_same _ _ _ (h6 j hj).1]
      simp [upd]
    · rw [World.cell?_setCell_other _ _ _ _ (fun k => e (by injection k with _ k _; exact k.symm))]
      rw [(h6 j hj).1]
      simp [upd, e]
  · rw [World.frozen?_setCell]
    exact (h6 j hj).2

theorem grown_store {w W : World} {h : Nat} (hb : Below w.heap.size w W) (p : Addr) (hp : p.block = h) (v : Value) : w.grownBy (W.setCell p v) (some h) :=
  ⟨hb.os, hb.tape, hb.output, by simpa [World.setCell] using hb.size, fun i hi hne => (Below.heap_setCell W p v i (by
    rintro rfl
    exact hne (by rw [hp]))).trans (hb.block i hi)⟩

theorem grown_below {w W : World} (hb : Below w.heap.size w W) (row : Option Nat) : w.grownBy W row := ⟨hb.os, hb.tape, hb.output, hb.size, fun i hi _ => hb.block i hi⟩

theorem grown_then {w A B : World} {row : Option Nat} (h : w.grownBy A row) (hb : Below A.heap.size A B) : w.grownBy B row :=
  ⟨hb.os.trans h.os, hb.tape.trans h.tape, hb.output.trans h.output, Nat.le_trans h.size hb.size, fun i hi hne => (hb.block i (Nat.lt_of_lt_of_le hi h.size)).trans (h.block i hi hne)⟩

theorem grown_trans {A B C : World} {row : Option Nat} (h : A.grownBy B row) (k : B.grownBy C row) : A.grownBy C row :=
  ⟨k.os.trans h.os, k.tape.trans h.tape, k.output.trans h.output, Nat.le_trans h.size k.size, fun i hi hne => (k.block i (Nat.lt_of_lt_of_le hi h.size) hne).trans (h.block i hi hne)⟩

/-- What a call may have done with an arena: new blocks, and words of the arena. -/
def ArTo (w w' : World) (g h n : Nat) (ys : Nat → Int) : Prop := w.grownBy w' (some h) ∧ IsAr w' g h n ys

theorem ArTo.put {w B : World} {g h n : Nat} {xs : Nat → Int} (H : IsAr w g h n xs) {i : Nat} (hi : i < n) (v : Int)
    (hb : Below (w.setCell ⟨h, i, none⟩ (.int .u64 v)).heap.size (w.setCell ⟨h, i, none⟩ (.int .u64 v)) B) : ArTo w B g h n (upd xs i v) :=
  ⟨grown_then (grown_store (Below.refl _ _) _ rfl _) hb, (H.store (Below.refl _ _) hi v).keep hb⟩

theorem ArTo.same {w B : World} {g h n : Nat} {xs : Nat → Int} (H : IsAr w g h n xs) (hb : Below w.heap.size w B) : ArTo w B g h n xs := ⟨grown_below hb _, H.keep hb⟩

set_option maxHeartbeats 1000000 in
theorem none_any (g h n : Nat) (xs : Nat → Int) (w : World) (H : IsAr w g h n xs) :
    Calls Try.prog 49 #[.pointer (some ⟨g, 0, none⟩)] w fun e w' => e = .returned (.bool false) ∧ Below w.heap.size w w' := by
  obtain ⟨h1, h2, h3, h4, h5, h6⟩ := H
  have hn : ((n : Int) == 0) = false := by simp; omega
  clear h6
  go_enter Try.func49, Try.ntmps49
  go_wp2
  go_ret
  refine ⟨rfl, ?_⟩
  repeat (first | exact Below.refl _ _ | assumption | refine Below.alloc ?_ (by first | (simp; done) | (simp; omega) | omega) _ | refine Below.setCell ?_ (by first | (simp; done) | (simp; omega) | omega) _ | apply Below.drew | refine Below.trans ?_ (Below.mono (by assumption) (by first | (simp; done) | (simp; omega) | omega)))

set_option maxHeartbeats 1000000 in
theorem none_nil (w : World) :
    Calls Try.prog 49 #[.pointer none] w fun e w' => e = .returned (.bool true) ∧ Below w.heap.size w w' := by
  go_enter Try.func49, Try.ntmps49
  go_wp2
  go_ret
  refine ⟨rfl, ?_⟩
  repeat (first | exact Below.refl _ _ | assumption | refine Below.alloc ?_ (by first | (simp; done) | (simp; omega) | omega) _ | refine Below.setCell ?_ (by first | (simp; done) | (simp; omega) | omega) _ | apply Below.drew | refine Below.trans ?_ (Below.mono (by assumption) (by first | (simp; done) | (simp; omega) | omega)))

set_option maxHeartbeats 1000000 in
theorem none_zero (g : Nat) (w : World) (h1 : w.cell? ⟨g, 0, none⟩ = some (.slice none 0 0)) :
    Calls Try.prog 49 #[.pointer (some ⟨g, 0, none⟩)] w fun e w' => e = .returned (.bool true) ∧ Below w.heap.size w w' := by
  go_enter Try.func49, Try.ntmps49
  go_wp2
  go_ret
  refine ⟨rfl, ?_⟩
  repeat (first | exact Below.refl _ _ | assumption | refine Below.alloc ?_ (by first | (simp; done) | (simp; omega) | omega) _ | refine Below.setCell ?_ (by first | (simp; done) | (simp; omega) | omega) _ | apply Below.drew | refine Below.trans ?_ (Below.mono (by assumption) (by first | (simp; done) | (simp; omega) | omega)))

set_option maxHeartbeats 1000000 in
theorem load_any (g h n : Nat) (xs : Nat → Int) (k : Int) (i : Nat) (o v : Int) (hi : i < n) (w : World) (H : IsAr w g h n xs) :
    Calls Try.prog 50 #[.pointer (some ⟨g, 0, none⟩), .agg #[.int .i64 k, .int .i64 i, .int .u64 o, .int .u64 v]] w fun e w' => e = .returned (.int .u64 (xs i)) ∧ Below w.heap.size w w' := by
  obtain ⟨h1, h2, h3, h4, h5, h6⟩ := H
  obtain ⟨hc, hf⟩ := h6 i hi
  have b0 : (0 : Int) ≤ (i : Int) := by omega
  have b1 : (i : Int) < (n : Int) := by omega
  clear h6
  go_enter Try.func50, Try.ntmps50
  go_wp2
  go_region
  all_goals
    go_wp2
    go_ret
    refine ⟨rfl, ?_⟩
    repeat (first | exact Below.refl _ _ | assumption | refine Below.alloc ?_ (by first | (simp; done) | (simp; omega) | omega) _ | refine Below.setCell ?_ (by first | (simp; done) | (simp; omega) | omega) _ | apply Below.drew | refine Below.trans ?_ (Below.mono (by assumption) (by first | (simp; done) | (simp; omega) | omega)))

set_option maxHeartbeats 1000000 in
theorem store_any (g h n : Nat) (xs : Nat → Int) (k : Int) (i : Nat) (o v : Int) (hi : i < n) (w : World) (H : IsAr w g h n xs) :
    Calls Try.prog 51 #[.pointer (some ⟨g, 0, none⟩), .agg #[.int .i64 k, .int .i64 i, .int .u64 o, .int .u64 v]] w fun e w' => e = .returned (.int .u64 0) ∧ ArTo w w' g h n (upd xs i v) := by
  have HH := hide H
  obtain ⟨h1, h2, h3, h4, h5, h6⟩ := H
  obtain ⟨hc, hf⟩ := h6 i hi
  have b0 : (0 : Int) ≤ (i : Int) := by omega
  have b1 : (i : Int) < (n : Int) := by omega
  clear h6
  go_enter Try.func51, Try.ntmps51
  go_wp2
  go_region
  all_goals
    go_wp2
    go_ret
    refine ⟨rfl, ArTo.put (unhide HH) hi v ?_⟩
    repeat (first | exact Below.refl _ _ | assumption | refine Below.alloc ?_ (by first | (simp; done) | (simp; omega) | omega) _ | refine Below.setCell ?_ (by first | (simp; done) | (simp; omega) | omega) _ | apply Below.drew | refine Below.trans ?_ (Below.mono (by assumption) (by first | (simp; done) | (simp; omega) | omega)))

set_option maxHeartbeats 1000000 in
theorem cas_yes (g h n : Nat) (xs : Nat → Int) (k : Int) (i : Nat) (o v : Int) (hi : i < n) (hx : xs i = o) (w : World) (H : IsAr w g h n xs) :
    Calls Try.prog 52 #[.pointer (some ⟨g, 0, none⟩), .agg #[.int .i64 k, .int .i64 i, .int .u64 o, .int .u64 v]] w fun e w' => e = .returned (.int .u64 (xs i)) ∧ ArTo w w' g h n (upd xs i v) := by
  have HH := hide H
  obtain ⟨h1, h2, h3, h4, h5, h6⟩ := H
  obtain ⟨hc, hf⟩ := h6 i hi
  have b0 : (0 : Int) ≤ (i : Int) := by omega
  have b1 : (i : Int) < (n : Int) := by omega
  clear h6
  rw [hx] at hc ⊢
  go_enter Try.func52, Try.ntmps52
  go_wp2
  go_region
  all_goals
    go_wp2
  all_goals
    go_region
  all_goals
    go_wp2
    go_ret
    refine ⟨rfl, ArTo.put (unhide HH) hi v ?_⟩
    repeat (first | exact Below.refl _ _ | assumption | refine Below.alloc ?_ (by first | (simp; done) | (simp; omega) | omega) _ | refine Below.setCell ?_ (by first | (simp; done) | (simp; omega) | omega) _ | apply Below.drew | refine Below.trans ?_ (Below.mono (by assumption) (by first | (simp; done) | (simp; omega) | omega)))

set_option maxHeartbeats 1000000 in
theorem cas_no (g h n : Nat) (xs : Nat → Int) (k : Int) (i : Nat) (o v : Int) (hi : i < n) (hx : xs i ≠ o) (w : World) (H : IsAr w g h n xs) :
    Calls Try.prog 52 #[.pointer (some ⟨g, 0, none⟩), .agg #[.int .i64 k, .int .i64 i, .int .u64 o, .int .u64 v]] w fun e w' => e = .returned (.int .u64 (xs i)) ∧ ArTo w w' g h n xs := by
  have HH := hide H
  obtain ⟨h1, h2, h3, h4, h5, h6⟩ := H
  obtain ⟨hc, hf⟩ := h6 i hi
  have b0 : (0 : Int) ≤ (i : Int) := by omega
  have b1 : (i : Int) < (n : Int) := by omega
  have hx2 : (xs i == o) = false := by simpa using hx
  clear h6 hx
  go_enter Try.func52, Try.ntmps52
  go_wp2
  go_region
  all_goals
    go_wp2
    go_ret
    refine ⟨rfl, ArTo.same (unhide HH) ?_⟩
    repeat (first | exact Below.refl _ _ | assumption | refine Below.alloc ?_ (by first | (simp; done) | (simp; omega) | omega) _ | refine Below.setCell ?_ (by first | (simp; done) | (simp; omega) | omega) _ | apply Below.drew | refine Below.trans ?_ (Below.mono (by assumption) (by first | (simp; done) | (simp; omega) | omega)))
end Go.Proofs.Ytnnllhlcpmmcaaa
