/- The walks of package arena: are two arenas the same; where they are unlike. -/
import Derived.Test.YtnnllhlcpmmcaaaArM
import Derived.Test.YtnnllhlcpmmcaaaArO
import Derived.Deep.RegionHeld3
import Derived.Deep.QuietTactic
import Derived.BigQuiet
namespace Go.Proofs.Ytnnllhlcpmmcaaa
set_option linter.unusedVariables false
set_option linter.unusedSimpArgs false
open Go.RowKit

theorem none_q2 (g b o n c : Nat) (w : World) (h1 : w.cell? ⟨g, 0, none⟩ = some (.slice (some ⟨b, o, none⟩) n c)) (hn1 : 1 ≤ n) :
    Calls Try.prog 49 #[.pointer (some ⟨g, 0, none⟩)] w fun e w' => e = .returned (.bool false) ∧ w = w' :=
  (none_q g b o n c w h1 hn1).mono fun _ _ h => ⟨h.1, h.2.symm⟩

theorem equal_arena (n m : Nat) (h1 h2 c1 c2 : Nat) (xs ys : Nat → Int) (hn : n ≤ 16384) (hm : m ≤ 16384) (w : World) (H1 : ∀ i, i < n → w.cell? ⟨h1, i, none⟩ = some (.int .u64 (xs i))) (H2 : ∀ i, i < m → w.cell? ⟨h2, i, none⟩ = some (.int .u64 (ys i))) :
    Calls Try.prog 54 #[.slice (some ⟨h1, 0, none⟩) n c1, .slice (some ⟨h2, 0, none⟩) m c2] w fun e w' => e = .returned (.bool (decide (n = m) && eqTo xs ys n)) ∧ Below w.heap.size w w' := by
  by_cases e : n = m
  · subst e
    refine (equal_any h1 0 c1 h2 0 c2 n xs ys hn w (fun i hi => by rw [Nat.zero_add]; exact H1 i hi) (fun i hi => by rw [Nat.zero_add]; exact H2 i hi)).mono ?_
    rintro e w' ⟨rfl, h⟩
    exact ⟨ret_bool (by simp), h⟩
  · refine (equal_no _ _ c1 c2 n m hn hm e w).mono ?_
    rintro e w' ⟨rfl, h⟩
    exact ⟨ret_bool (by simp [e]), h⟩

set_option maxHeartbeats 2000000 in
theorem same_arena (g1 h1 n g2 h2 m : Nat) (xs ys : Nat → Int) (w : World) (H : IsAr w g1 h1 n xs) (K : IsAr w g2 h2 m ys) :
    Calls Try.prog 32 #[.pointer (some ⟨g1, 0, none⟩), .pointer (some ⟨g2, 0, none⟩)] w fun e w' => e = .returned (.bool (decide (n = m) && eqTo xs ys n)) ∧ Below w.heap.size w w' := by
  have HH := hide H
  have KK := hide K
  obtain ⟨a1, a2, a3, a4, ⟨a5, a6⟩, a7⟩ := H
  obtain ⟨k1, k2, k3, k4, ⟨k5, k6⟩, k7⟩ := K
  clear a7 k7
  go_enter Try.func32, Try.ntmps32
  go_wp2_with (go_at_call 49; refine (none_q2 _ _ _ _ _ _ (by first | exact a1 | exact k1) (by first | exact a5 | exact k5)).mono ?_; rintro e w' ⟨rfl, hww⟩; subst hww)
  go_region_held3 (fun W => Below w.heap.size w W ∧ W.cell? ⟨g1, 0, none⟩ = some (.slice (some ⟨h1, 0, none⟩) n n) ∧ W.cell? ⟨g2, 0, none⟩ = some (.slice (some ⟨h2, 0, none⟩) m m)) (((refine and_dep ?_ (fun hkq => ⟨(hkq.cell (p := ⟨g1, 0, none⟩) a2).trans a1, (hkq.cell (p := ⟨g2, 0, none⟩) k2).trans k1⟩)); go_split_ands; repeat (first | exact Below.refl _ _ | assumption | refine Below.alloc ?_ (by first | (simp; done) | (simp; omega) | omega) _ | refine Below.setCell ?_ (by first | (simp; done) | (simp; omega) | omega) _ | apply Below.drew | refine Below.trans ?_ (Below.mono (by assumption) (by first | (simp; done) | (simp; omega) | omega)))))
    ((go_at_call 54; refine (equal_arena n m h1 h2 n m xs ys a6 k6 _ (fun i hi => (((unhide HH).keep (by go_split_ands; repeat (first | exact Below.refl _ _ | assumption | refine Below.alloc ?_ (by first | (simp; done) | (simp; omega) | omega) _ | refine Below.setCell ?_ (by first | (simp; done) | (simp; omega) | omega) _ | apply Below.drew | refine Below.trans ?_ (Below.mono (by assumption) (by first | (simp; done) | (simp; omega) | omega))))).2.2.2.2.2 i hi).1) (fun i hi => (((unhide KK).keep (by go_split_ands; repeat (first | exact Below.refl _ _ | assumption | refine Below.alloc ?_ (by first | (simp; done) | (simp; omega) | omega) _ | refine Below.setCell ?_ (by first | (simp; done) | (simp; omega) | omega) _ | apply Below.drew | refine Below.trans ?_ (Below.mono (by assumption) (by first | (simp; done) | (simp; omega) | omega))))).2.2.2.2.2 i hi).1)).mono ?_; rintro e w3 ⟨rfl, hw3⟩; obtain ⟨hcw3, hfw3⟩ := bcell hw3; (try (simp only [World.size_drew, World.cell?_drew, World.frozen?_drew] at hcw3 hfw3)); have hzw3 := hw3.size; (try (simp only [World.size_alloc, World.size_setCell, World.size_drew] at hzw3)); (try (have hzw3_w_0 : w.heap.size < w3.heap.size := by omega)); (try (have hzw3_w_1 : w.heap.size + 1 < w3.heap.size := by omega)); (try (have hzw3_w_2 : w.heap.size + 1 + 1 < w3.heap.size := by omega)); (try (have hzw3_w_3 : w.heap.size + 1 + 1 + 1 < w3.heap.size := by omega)); (try (have hyw3_w : w.heap.size ≤ w3.heap.size := by omega)); (try (have hyw3_wa : w.heap.size + 1 ≤ w3.heap.size := by omega))))
  all_goals go_wp2
  all_goals go_ret
  all_goals exact ⟨rfl, by repeat (first | exact Below.refl _ _ | assumption | refine Below.alloc ?_ (by first | (simp; done) | (simp; omega) | omega) _ | refine Below.setCell ?_ (by first | (simp; done) | (simp; omega) | omega) _ | apply Below.drew | refine Below.trans ?_ (Below.mono (by assumption) (by first | (simp; done) | (simp; omega) | omega)))⟩

end Go.Proofs.Ytnnllhlcpmmcaaa
