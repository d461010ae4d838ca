/- The walk of package arena: an arena of given words. -/
import Derived.Test.YtnnllhlcpmmcaaaArD
import Derived.Laws.IdiomCopy
namespace Go.Proofs.Ytnnllhlcpmmcaaa
set_option linter.unusedVariables false
set_option linter.unusedSimpArgs false
open Go.RowKit

def wordsL (n : Nat) (xs : Nat → Int) : List Value := (List.range n).map fun i => .int .u64 (xs i)

theorem wordsL_get {n : Nat} {xs : Nat → Int} {j : Nat} {v : Value} (h : (wordsL n xs)[j]? = some v) : j < n ∧ v = .int .u64 (xs j) := by
  unfold wordsL at h
  rw [List.getElem?_map] at h
  by_cases hj : j < n
  · rw [List.getElem?_range hj] at h
    exact ⟨hj, by simpa using h.symm⟩
  · rw [List.getElem?_eq_none (by simp; omega)] at h
    cases h

theorem wordsL_len (n : Nat) (xs : Nat → Int) : (wordsL n xs).length = n := by simp [wordsL]

theorem below_setCells {B : Nat} {a : World} (b : Nat) (hB : B ≤ b) : ∀ (vs : List Value) (o : Nat) (w : World), Below B a w → Below B a (w.setCells b o vs)
  | [], _, _, h => h
  | _ :: vs, o, _, h => below_setCells b hB vs (o + 1) _ (h.setCell (p := ⟨b, o, none⟩) hB _)

theorem frozen_setCells (b : Nat) : ∀ (vs : List Value) (o : Nat) (w : World) (p : Addr), (w.setCells b o vs).frozen? p = w.frozen? p
  | [], _, _, _ => rfl
  | v :: vs, o, w, p => by rw [World.setCells, frozen_setCells b vs (o + 1) _ p, World.frozen?_setCell]

theorem size_setCells (b : Nat) : ∀ (vs : List Value) (o : Nat) (w : World), (w.setCells b o vs).heap.size = w.heap.size
  | [], _, _ => rfl
  | v :: vs, o, w => by rw [World.setCells, size_setCells b vs (o + 1) _, World.size_setCell]

theorem IsAr.fill {w : World} {g h n : Nat} {ys : Nat → Int} (H : IsAr w g h n ys) (xs : Nat → Int) : IsAr (w.setCells h 0 (wordsL n xs)) g h n xs := by
  obtain ⟨h1, h2, h3, h4, h5, h6⟩ := H
  have hs : (w.setCells h 0 (wordsL n xs)).heap.size = w.heap.size := size_setCells h _ 0 w
  refine ⟨?_, by rw [hs]; exact h2, by rw [hs]; exact h3, h4, h5, fun i hi => ⟨?_, by rw [frozen_setCells]; exact (h6 i hi).2⟩⟩
  · rw [World.cell?_setCells_out h _ 0 w ⟨g, 0, none⟩ (fun e => absurd e h4)]
    exact h1
  · have k := World.cell?_setCells_in h (wordsL n xs) 0 w (fun j hj => by
      rw [wordsL_len] at hj
      rw [Nat.zero_add, (h6 j hj).1]
      rfl) i (by rw [wordsL_len]; exact hi)
    rw [Nat.zero_add] at k
    rw [k]
    simp [wordsL]

set_option maxHeartbeats 4000000 in
theorem of_no (A : Option Addr) (len cap : Nat) (hlen : len ≤ 9223372036854775807) (hn : ¬ (1 ≤ len ∧ len ≤ 16384)) (w : World) :
    Calls Try.prog 20 #[.slice A len cap] w fun e w' => e = .returned (.tuple #[.pointer none, .int .i64 2]) ∧ Below w.heap.size w w' := by
  go_enter Try.func20, Try.ntmps20
  go_wp2_with fail
  (refine (new_no _ (by omega) _).mono ?_); rintro e w1 ⟨rfl, hw1⟩; obtain ⟨hcw1, hfw1⟩ := bcell hw1; (try (simp only [World.size_drew, World.cell?_drew, World.frozen?_drew] at hcw1 hfw1)); have hzw1 := hw1.size; (try (simp only [World.size_alloc, World.size_setCell, World.size_drew] at hzw1)); (try (have hzw1_w_0 : w.heap.size < w1.heap.size := by omega)); (try (have hzw1_w_1 : w.heap.size + 1 < w1.heap.size := by omega)); (try (have hzw1_w_2 : w.heap.size + 1 + 1 < w1.heap.size := by omega)); (try (have hzw1_w_3 : w.heap.size + 1 + 1 + 1 < w1.heap.size := by omega)); (try (have hyw1_w : w.heap.size ≤ w1.heap.size := by omega)); (try (have hyw1_wa : w.heap.size + 1 ≤ w1.heap.size := by omega))
  go_wp2
  go_ret2
  exact ⟨rfl, by repeat (first | exact Below.refl _ _ | assumption | refine Below.alloc ?_ (by first | (simp; done) | (simp; omega) | omega) _ | refine Below.setCell ?_ (by first | (simp; done) | (simp; omega) | omega) _ | apply Below.drew | refine Below.trans ?_ (Below.mono (by assumption) (by first | (simp; done) | (simp; omega) | omega)))⟩

set_option maxHeartbeats 4000000 in
theorem of_yes (b o len cap : Nat) (xs : Nat → Int) (hn : 1 ≤ len) (hn2 : len ≤ 16384) (w : World) (hb : b < w.heap.size) (hc : ∀ i, i < len → w.cell? ⟨b, o + i, none⟩ = some (.int .u64 (xs i))) :
    Calls Try.prog 20 #[.slice (some ⟨b, o, none⟩) len cap] w fun e w' => ∃ g h, e = .returned (.tuple #[.pointer (some ⟨g, 0, none⟩), .int .i64 0]) ∧ Below w.heap.size w w' ∧ w.heap.size ≤ g ∧ w.heap.size ≤ h ∧ IsAr w' g h len xs := by
  have HC := hide hc
  clear hc
  go_enter Try.func20, Try.ntmps20
  go_wp2_with fail
  refine (new_yes len hn hn2 _).mono ?_
  rintro e w1 ⟨g, h, rfl, hb1, hg, hh, H1⟩
  have hcp := run_copy_cells (P := Try.prog) w1 27 27 3 36 h 0 len len ⟨b, o, none⟩ len cap (wordsL len xs) Try.underlying27 (by kernel_rfl) (by rw [wordsL_len]; simp [Nat.min_def])
    (fun j v hj => by
      obtain ⟨hj1, rfl⟩ := wordsL_get hj
      rw [show (⟨b, o, none⟩ : Addr).add j = ⟨b, o + j, none⟩ from by unfold Addr.add; split <;> simp_all]
      exact (hb1.cell (p := ⟨b, o + j, none⟩) hb).trans (unhide HC j hj1))
    (fun j hj => by
      rw [wordsL_len] at hj
      rw [Nat.zero_add, (H1.2.2.2.2.2 j hj).1]
      rfl)
    (fun j hj => by
      rw [wordsL_len] at hj
      rw [Nat.zero_add]
      exact (H1.2.2.2.2.2 j hj).2)
    (fun v hv => by
      obtain ⟨i, _, rfl⟩ := List.mem_map.1 hv
      rfl)
  rw [wordsL_len] at hcp
  have hgc := H1.1
  have H2 := hide (H1.fill xs)
  have HB := hide (below_setCells h hh (wordsL len xs) 0 w1 hb1)
  clear H1 HC hb1
  go_wp2
  go_ret2
  exact ⟨g, h, rfl, unhide HB, hg, hh, unhide H2⟩
end Go.Proofs.Ytnnllhlcpmmcaaa
