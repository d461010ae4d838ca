/- The walk of ArenaOf: it returns true. -/
import Derived.Test.YtlhpphlfgjopbaaArI
import Derived.Test.YtlhpphlfgjopbaaArH
import Derived.Test.YtlhpphlfgjopbaaArF
import Derived.Test.YtlhpphlfgjopbaaOp
import Derived.Deep.RegionHeld3
namespace Go.Proofs.Ytlhpphlfgjopbaa
set_option linter.unusedVariables false
set_option linter.unusedSimpArgs false
open Go.RowKit

theorem has_zero (g h k : Nat) (w : World) (H : IsAr w g h k (fun _ => 0)) :
    Calls Try.prog 16 #[.pointer (some ⟨g, 0, none⟩), .slice (some ⟨w.heap.size, 0, none⟩) k k] (w.alloc (.cells (madeCells #[.int .u64 0] k) 28)) fun e w' => e = .returned (.bool true) ∧ Below w.heap.size w w' := by
  have hb : Below w.heap.size w (w.alloc (.cells (madeCells #[.int .u64 0] k) 28)) := (Below.refl _ _).alloc (Nat.le_refl _) _
  refine (has_true g h k (fun _ => 0) w.heap.size 0 k _ (H.keep hb) (by simp) (fun i hi => ?_)).mono ?_
  · rw [Nat.zero_add]
    exact made_cell _ _ _ _ _ hi
  · rintro e w' ⟨rfl, h2⟩
    exact ⟨rfl, hb.trans (h2.mono hb.size)⟩

set_option maxRecDepth 100000 in
set_option maxHeartbeats 8000000 in
theorem arenaOf_walk (n : Int) (hwn : (Lit.int .i64 n).wf = true) (A : Option Addr) (len cap : Nat) (w : World) (hr : RowOk w 5 [.int .u64] A len cap) :
    Calls Try.prog 4 #[.int .i64 n, .slice A len cap] w fun e w' => e = .returned (.bool true) ∧ Below w.heap.size w w' := by
  have hm := hr.1
  have hm2 := hr.2.1
  unfold maxLen at hm2
  obtain ⟨b, o, z, hA, hc⟩ := hr.ints
  clear hr
  have HA := hide hA
  have HC := hide hc
  clear hA hc
  obtain ⟨i0, hi, hz0, hz1, hz2⟩ := info_parts info_u64
  by_cases hl : 300 < len
  · go_enter Try.func4, Try.ntmps4
    go_wp2_with (go_at_call 10; refine (works5_any _).mono ?_; rintro e ww ⟨rfl, hww⟩; obtain ⟨hcww, hfww⟩ := bcell hww; (try (simp only [World.size_drew, World.cell?_drew, World.frozen?_drew] at hcww hfww)); have hzww := hww.size; (try (simp only [World.size_alloc, World.size_setCell, World.size_drew] at hzww)); (try (have hzww_w_0 : w.heap.size < ww.heap.size := by omega)); (try (have hzww_w_1 : w.heap.size + 1 < ww.heap.size := by omega)); (try (have hzww_w_2 : w.heap.size + 1 + 1 < ww.heap.size := by omega)); (try (have hzww_w_3 : w.heap.size + 1 + 1 + 1 < ww.heap.size := by omega)); (try (have hyww_w : w.heap.size ≤ ww.heap.size := by omega)); (try (have hyww_wa : w.heap.size + 1 ≤ ww.heap.size := by omega)))
    go_ret
    refine ⟨rfl, ?_⟩
    repeat (first | exact Below.refl _ _ | assumption | refine Below.alloc ?_ (by first | (simp; done) | (simp; omega) | omega) _ | refine Below.setCell ?_ (by first | (simp; done) | (simp; omega) | omega) _ | apply Below.drew | refine Below.trans ?_ (Below.mono (by assumption) (by first | (simp; done) | (simp; omega) | omega)))
  by_cases hn : 20000 < n
  · go_enter Try.func4, Try.ntmps4
    go_wp2_with (go_at_call 10; refine (works5_any _).mono ?_; rintro e ww ⟨rfl, hww⟩; obtain ⟨hcww, hfww⟩ := bcell hww; (try (simp only [World.size_drew, World.cell?_drew, World.frozen?_drew] at hcww hfww)); have hzww := hww.size; (try (simp only [World.size_alloc, World.size_setCell, World.size_drew] at hzww)); (try (have hzww_w_0 : w.heap.size < ww.heap.size := by omega)); (try (have hzww_w_1 : w.heap.size + 1 < ww.heap.size := by omega)); (try (have hzww_w_2 : w.heap.size + 1 + 1 < ww.heap.size := by omega)); (try (have hzww_w_3 : w.heap.size + 1 + 1 + 1 < ww.heap.size := by omega)); (try (have hyww_w : w.heap.size ≤ ww.heap.size := by omega)); (try (have hyww_wa : w.heap.size + 1 ≤ ww.heap.size := by omega)))
    go_ret
    refine ⟨rfl, ?_⟩
    repeat (first | exact Below.refl _ _ | assumption | refine Below.alloc ?_ (by first | (simp; done) | (simp; omega) | omega) _ | refine Below.setCell ?_ (by first | (simp; done) | (simp; omega) | omega) _ | apply Below.drew | refine Below.trans ?_ (Below.mono (by assumption) (by first | (simp; done) | (simp; omega) | omega)))
  by_cases hx : 1 ≤ n ∧ n ≤ 16384
  · obtain ⟨k, rfl⟩ : ∃ k : Nat, n = k := ⟨n.toNat, by omega⟩
    have hmk := fun W => run_make_rowN (P := Try.prog) 33 28 i0 _ Try.underlying33 hi hz0 .i64 .i64 k k (Nat.le_refl _) (by rw [hz2]; omega) (by omega) W
    rw [hz1] at hmk
    clear hi hz0 hz1 hz2
    have hx1 : ¬ (k : Int) < 1 := by omega
    have hx2 : ¬ 16384 < (k : Int) := by omega
    go_enter Try.func4, Try.ntmps4
    go_wp2_with fail
    refine (new_yes k (by omega) (by omega) _).mono ?_
    rintro e w1 ⟨g, h, rfl, hb1, hg, hh, H1⟩
    have H1 := hide H1
    have hz1 := hb1.size
    by_cases h0 : len = 0
    · subst h0
      go_wp2_with fail
      refine (of_no _ _ _ (by omega) (by omega) _).mono ?_
      rintro e w2 ⟨rfl, hb2⟩
      have hz2 := hb2.size
      have H2 := hide ((unhide H1).keep hb2)
      clear hwn HA HC
      go_wp2_with fail
      refine (num5_any _ _).mono ?_
      rintro e w3 ⟨rfl, rfl⟩
      go_wp2_with fail
      refine (has_zero g h k w2 (unhide H2)).mono ?_
      rintro e w3 ⟨rfl, hb3⟩
      have hz3 := hb3.size
      clear hmk
      go_wp2_with (first | (go_at_call 11; refine (num5_any _ _).mono ?_; rintro e w' ⟨rfl, rfl⟩) | (go_at_call 10; refine (works5_any _).mono ?_; rintro e ww ⟨rfl, hww⟩; obtain ⟨hcww, hfww⟩ := bcell hww; (try (simp only [World.size_drew, World.cell?_drew, World.frozen?_drew] at hcww hfww)); have hzww := hww.size; (try (simp only [World.size_alloc, World.size_setCell, World.size_drew] at hzww)); (try (have hzww_w_0 : w.heap.size < ww.heap.size := by omega)); (try (have hzww_w_1 : w.heap.size + 1 < ww.heap.size := by omega)); (try (have hzww_w_2 : w.heap.size + 1 + 1 < ww.heap.size := by omega)); (try (have hzww_w_3 : w.heap.size + 1 + 1 + 1 < ww.heap.size := by omega)); (try (have hyww_w : w.heap.size ≤ ww.heap.size := by omega)); (try (have hyww_wa : w.heap.size + 1 ≤ ww.heap.size := by omega))))
      go_ret
      refine ⟨rfl, ?_⟩
      repeat (first | exact Below.refl _ _ | assumption | refine Below.alloc ?_ (by first | (simp; done) | (simp; omega) | omega) _ | refine Below.setCell ?_ (by first | (simp; done) | (simp; omega) | omega) _ | apply Below.drew | refine Below.trans ?_ (Below.mono (by assumption) (by first | (simp; done) | (simp; omega) | omega)))
    · obtain ⟨rfl, hb⟩ := unhide HA (by omega)
      have HC2 := hide (fun i (hi : i < len) => (hb1.cell (p := ⟨b, o + i, none⟩) hb).trans (unhide HC i hi).1)
      have hbw1 : b < w1.heap.size := by omega
      clear hwn HA HC
      have h01 : ((len : Int) == 0) = false := by simp; omega
      have h02 : ¬ (len : Int) = 0 := by omega
      go_wp2_with fail
      refine (of_yes b o len cap z (by omega) (by omega) _ hbw1 (unhide HC2)).mono ?_
      rintro e w2 ⟨g2, h2, rfl, hb2, hg2, hh2, K2⟩
      have K2 := hide K2
      have hz2 := hb2.size
      have H2 := hide ((unhide H1).keep hb2)
      have HC3 := hide (fun i (hi : i < len) => (hb2.cell (p := ⟨b, o + i, none⟩) hbw1).trans (unhide HC2 i hi))
      have hbw2 : b < w2.heap.size := by omega
      clear HC2
      go_wp2_with fail
      refine (num5_any _ _).mono ?_
      rintro e w3 ⟨rfl, rfl⟩
      go_wp2_with fail
      refine (has_zero g h k w2 (unhide H2)).mono ?_
      rintro e w3 ⟨rfl, hb3⟩
      have hz3 := hb3.size
      have K3 := hide ((unhide K2).keep hb3)
      have HC4 := hide (fun i (hi : i < len) => (hb3.cell (p := ⟨b, o + i, none⟩) hbw2).trans (unhide HC3 i hi))
      have hbw3 : b < w3.heap.size := by omega
      clear hmk HC3 K2 H2 H1
      go_wp2_with fail
      refine (num5_any _ _).mono ?_
      rintro e w4 ⟨rfl, rfl⟩
      go_wp2_with fail
      refine (has_true g2 h2 len z b o cap w3 (unhide K3) hbw3 (unhide HC4)).mono ?_
      rintro e w4 ⟨rfl, hb4⟩
      have hz4 := hb4.size
      go_wp2_with (go_at_call 10; refine (works5_any _).mono ?_; rintro e ww ⟨rfl, hww⟩; obtain ⟨hcww, hfww⟩ := bcell hww; (try (simp only [World.size_drew, World.cell?_drew, World.frozen?_drew] at hcww hfww)); have hzww := hww.size; (try (simp only [World.size_alloc, World.size_setCell, World.size_drew] at hzww)); (try (have hzww_w_0 : w.heap.size < ww.heap.size := by omega)); (try (have hzww_w_1 : w.heap.size + 1 < ww.heap.size := by omega)); (try (have hzww_w_2 : w.heap.size + 1 + 1 < ww.heap.size := by omega)); (try (have hzww_w_3 : w.heap.size + 1 + 1 + 1 < ww.heap.size := by omega)); (try (have hyww_w : w.heap.size ≤ ww.heap.size := by omega)); (try (have hyww_wa : w.heap.size + 1 ≤ ww.heap.size := by omega)))
      go_ret
      refine ⟨rfl, ?_⟩
      repeat (first | exact Below.refl _ _ | assumption | refine Below.alloc ?_ (by first | (simp; done) | (simp; omega) | omega) _ | refine Below.setCell ?_ (by first | (simp; done) | (simp; omega) | omega) _ | apply Below.drew | refine Below.trans ?_ (Below.mono (by assumption) (by first | (simp; done) | (simp; omega) | omega)))
  · clear hi hz0 hz1 hz2
    have hor : (decide (n < 1) || decide (16384 < n)) = true := by
      simp only [Bool.or_eq_true, decide_eq_true_eq]
      omega
    go_enter Try.func4, Try.ntmps4
    go_wp2_with fail
    refine (new_no n hx _).mono ?_
    rintro e w1 ⟨rfl, hb1⟩
    have hz1 := hb1.size
    by_cases h0 : len = 0
    · subst h0
      go_wp2_with fail
      refine (of_no _ _ _ (by omega) (by omega) _).mono ?_
      rintro e w2 ⟨rfl, hb2⟩
      have hz2 := hb2.size
      clear hwn HA HC
      go_wp2_with (first | (go_at_call 11; refine (num5_any _ _).mono ?_; rintro e w' ⟨rfl, rfl⟩) | (go_at_call 10; refine (works5_any _).mono ?_; rintro e ww ⟨rfl, hww⟩; obtain ⟨hcww, hfww⟩ := bcell hww; (try (simp only [World.size_drew, World.cell?_drew, World.frozen?_drew] at hcww hfww)); have hzww := hww.size; (try (simp only [World.size_alloc, World.size_setCell, World.size_drew] at hzww)); (try (have hzww_w_0 : w.heap.size < ww.heap.size := by omega)); (try (have hzww_w_1 : w.heap.size + 1 < ww.heap.size := by omega)); (try (have hzww_w_2 : w.heap.size + 1 + 1 < ww.heap.size := by omega)); (try (have hzww_w_3 : w.heap.size + 1 + 1 + 1 < ww.heap.size := by omega)); (try (have hyww_w : w.heap.size ≤ ww.heap.size := by omega)); (try (have hyww_wa : w.heap.size + 1 ≤ ww.heap.size := by omega))))
      all_goals go_ret
      all_goals refine ⟨rfl, ?_⟩
      all_goals (repeat (first | exact Below.refl _ _ | assumption | refine Below.alloc ?_ (by first | (simp; done) | (simp; omega) | omega) _ | refine Below.setCell ?_ (by first | (simp; done) | (simp; omega) | omega) _ | apply Below.drew | refine Below.trans ?_ (Below.mono (by assumption) (by first | (simp; done) | (simp; omega) | omega))))
    · obtain ⟨rfl, hb⟩ := unhide HA (by omega)
      have HC2 := hide (fun i (hi : i < len) => (hb1.cell (p := ⟨b, o + i, none⟩) hb).trans (unhide HC i hi).1)
      have hbw1 : b < w1.heap.size := by omega
      clear hwn HA HC
      have h01 : ((len : Int) == 0) = false := by simp; omega
      have h02 : ¬ (len : Int) = 0 := by omega
      go_wp2_with fail
      refine (of_yes b o len cap z (by omega) (by omega) _ hbw1 (unhide HC2)).mono ?_
      rintro e w2 ⟨g2, h2, rfl, hb2, hg2, hh2, K2⟩
      have K2 := hide K2
      have hz2 := hb2.size
      have HC3 := hide (fun i (hi : i < len) => (hb2.cell (p := ⟨b, o + i, none⟩) hbw1).trans (unhide HC2 i hi))
      have hbw2 : b < w2.heap.size := by omega
      clear HC2
      go_wp2_with (first | (go_at_call 11; refine (num5_any _ _).mono ?_; rintro e w' ⟨rfl, rfl⟩) | (go_at_call 16; refine (has_true g2 h2 len z b o cap w2 (unhide K2) hbw2 (unhide HC3)).mono ?_; rintro e w4 ⟨rfl, hb4⟩; have hz4 := hb4.size) | (go_at_call 10; refine (works5_any _).mono ?_; rintro e ww ⟨rfl, hww⟩; obtain ⟨hcww, hfww⟩ := bcell hww; (try (simp only [World.size_drew, World.cell?_drew, World.frozen?_drew] at hcww hfww)); have hzww := hww.size; (try (simp only [World.size_alloc, World.size_setCell, World.size_drew] at hzww)); (try (have hzww_w_0 : w.heap.size < ww.heap.size := by omega)); (try (have hzww_w_1 : w.heap.size + 1 < ww.heap.size := by omega)); (try (have hzww_w_2 : w.heap.size + 1 + 1 < ww.heap.size := by omega)); (try (have hzww_w_3 : w.heap.size + 1 + 1 + 1 < ww.heap.size := by omega)); (try (have hyww_w : w.heap.size ≤ ww.heap.size := by omega)); (try (have hyww_wa : w.heap.size + 1 ≤ ww.heap.size := by omega))))
      all_goals go_ret
      all_goals refine ⟨rfl, ?_⟩
      all_goals (repeat (first | exact Below.refl _ _ | assumption | refine Below.alloc ?_ (by first | (simp; done) | (simp; omega) | omega) _ | refine Below.setCell ?_ (by first | (simp; done) | (simp; omega) | omega) _ | apply Below.drew | refine Below.trans ?_ (Below.mono (by assumption) (by first | (simp; done) | (simp; omega) | omega))))
end Go.Proofs.Ytlhpphlfgjopbaa
