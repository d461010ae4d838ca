/- The walk of ArenaChecks: it returns true. -/
import Derived.Test.YtlhpphlfgjopbaaArF
import Derived.Test.YtlhpphlfgjopbaaOp
import Derived.Deep.RegionHeld3
namespace Go.Proofs.Ytlhpphlfgjopbaa
set_option linter.unusedVariables false
set_option linter.unusedSimpArgs false
open Go.RowKit

set_option maxHeartbeats 8000000 in
theorem arenaChecks_walk (A : Option Addr) (len cap : Nat) (w : World) (hr : RowOk w 5 [.int .i64, .int .i64, .int .u64, .int .u64] A len cap) :
    Calls Try.prog 3 #[.slice A len cap] w fun e w' => e = .returned (.bool true) ∧ Below w.heap.size w w' := by
  have hm := hr.1
  have hm2 := hr.2.1
  unfold maxLen at hm2
  obtain ⟨b, o, z, hA, hc⟩ := hr.intN [.i64, .i64, .u64, .u64]
  clear hr
  have HA := hide hA
  have HC := hide hc
  clear hA hc
  by_cases hl : 60 < len
  · go_enter Try.func3, Try.ntmps3
    go_wp2_with (go_at_call 10; refine (works5_any _).mono ?_; rintro e ww ⟨rfl, hww⟩; obtain ⟨hcww, hfww⟩ := bcell hww; (try (simp only [World.size_drew, World.cell?_drew, World.frozen?_drew] at hcww hfww)); have hzww := hww.size; (try (simp only [World.size_alloc, World.size_setCell, World.size_drew] at hzww)); (try (have hzww_w_0 : w.heap.size < ww.heap.size := by omega)); (try (have hzww_w_1 : w.heap.size + 1 < ww.heap.size := by omega)); (try (have hzww_w_2 : w.heap.size + 1 + 1 < ww.heap.size := by omega)); (try (have hzww_w_3 : w.heap.size + 1 + 1 + 1 < ww.heap.size := by omega)); (try (have hyww_w : w.heap.size ≤ ww.heap.size := by omega)); (try (have hyww_wa : w.heap.size + 1 ≤ ww.heap.size := by omega)))
    go_ret
    refine ⟨rfl, ?_⟩
    repeat (first | exact Below.refl _ _ | assumption | refine Below.alloc ?_ (by first | (simp; done) | (simp; omega) | omega) _ | refine Below.setCell ?_ (by first | (simp; done) | (simp; omega) | omega) _ | apply Below.drew | refine Below.trans ?_ (Below.mono (by assumption) (by first | (simp; done) | (simp; omega) | omega)))
  · go_enter Try.func3, Try.ntmps3
    go_wp2
    go_loopw [3] (fun i wr => ∃ k : Nat, k ≤ len ∧ i = .int .i64 k ∧ Below w.heap.size w wr) (fun i _ => len - (intOf i).toNat)
    case atStart =>
      refine ⟨0, by omega, rfl, ?_⟩
      repeat (first | exact Below.refl _ _ | assumption | refine Below.alloc ?_ (by first | (simp; done) | (simp; omega) | omega) _ | refine Below.setCell ?_ (by first | (simp; done) | (simp; omega) | omega) _ | apply Below.drew | refine Below.trans ?_ (Below.mono (by assumption) (by first | (simp; done) | (simp; omega) | omega)))
    case round =>
      obtain ⟨k, hk, rfl, hB⟩ := hrel
      have hsz := hB.size
      by_cases hlt : k < len
      · obtain ⟨rfl, hb⟩ := unhide HA (by omega)
        have c0 : wr.cell? ⟨b, o + k * 4, none⟩ = some (.int .i64 (z k 0)) := (hB.cell (p := ⟨b, o + k * 4, none⟩) hb).trans (unhide HC k hlt 0 .i64 rfl).1
        have c1 : wr.cell? ⟨b, o + k * 4 + 1, none⟩ = some (.int .i64 (z k 1)) := (hB.cell (p := ⟨b, o + k * 4 + 1, none⟩) hb).trans (unhide HC k hlt 1 .i64 rfl).1
        have c2 : wr.cell? ⟨b, o + k * 4 + 2, none⟩ = some (.int .u64 (z k 2)) := (hB.cell (p := ⟨b, o + k * 4 + 2, none⟩) hb).trans (unhide HC k hlt 2 .u64 rfl).1
        have c3 : wr.cell? ⟨b, o + k * 4 + 3, none⟩ = some (.int .u64 (z k 3)) := (hB.cell (p := ⟨b, o + k * 4 + 3, none⟩) hb).trans (unhide HC k hlt 3 .u64 rfl).1
        have hbr : b < wr.heap.size := Nat.lt_of_lt_of_le hb hB.size
        have hbr1 : b ≤ wr.heap.size := Nat.le_of_lt hbr
        have b0 : (0 : Int) ≤ (k : Int) := by omega
        have b1 : (k : Int) < (len : Int) := by omega
        clear HA HC
        go_wp2_with fail
        go_region_held3 (fun W => Below wr.heap.size wr W ∧ W.cell? ⟨b, o + k * 4, none⟩ = some (.int .i64 (z k 0)) ∧ W.cell? ⟨b, o + k * 4 + 1, none⟩ = some (.int .i64 (z k 1)) ∧ W.cell? ⟨b, o + k * 4 + 2, none⟩ = some (.int .u64 (z k 2)) ∧ W.cell? ⟨b, o + k * 4 + 3, none⟩ = some (.int .u64 (z k 3))) (((refine and_dep ?_ (fun hkq => ⟨(hkq.cell (p := ⟨b, o + k * 4, none⟩) hbr).trans c0, (hkq.cell (p := ⟨b, o + k * 4 + 1, none⟩) hbr).trans c1, (hkq.cell (p := ⟨b, o + k * 4 + 2, none⟩) hbr).trans c2, (hkq.cell (p := ⟨b, o + k * 4 + 3, none⟩) hbr).trans c3⟩)); go_split_ands; repeat (first | exact Below.refl _ _ | assumption | refine Below.alloc ?_ (by first | (simp; done) | (simp; omega) | omega) _ | refine Below.setCell ?_ (by first | (simp; done) | (simp; omega) | omega) _ | apply Below.drew | refine Below.trans ?_ (Below.mono (by assumption) (by first | (simp; done) | (simp; omega) | omega)))))
          (first | (go_at_call 11; refine (num5_any _ _).mono ?_; rintro e w' ⟨rfl, rfl⟩) | (go_at_call 12; refine (check_any _ _ _ _ _).mono ?_; rintro e w3 ⟨rfl, hw3⟩; obtain ⟨hcw3, hfw3⟩ := bcell hw3; (try (simp only [World.size_drew, World.cell?_drew, World.frozen?_drew] at hcw3 hfw3)); have hzw3 := hw3.size; (try (simp only [World.size_alloc, World.size_setCell, World.size_drew] at hzw3)); (try (have hzw3_w_0 : w.heap.size < w3.heap.size := by omega)); (try (have hzw3_w_1 : w.heap.size + 1 < w3.heap.size := by omega)); (try (have hzw3_w_2 : w.heap.size + 1 + 1 < w3.heap.size := by omega)); (try (have hzw3_w_3 : w.heap.size + 1 + 1 + 1 < w3.heap.size := by omega)); (try (have hyw3_w : w.heap.size ≤ w3.heap.size := by omega)); (try (have hyw3_wa : w.heap.size + 1 ≤ w3.heap.size := by omega)); (try (have hzw3_wr_0 : wr.heap.size < w3.heap.size := by omega)); (try (have hzw3_wr_1 : wr.heap.size + 1 < w3.heap.size := by omega)); (try (have hzw3_wr_2 : wr.heap.size + 1 + 1 < w3.heap.size := by omega)); (try (have hzw3_wr_3 : wr.heap.size + 1 + 1 + 1 < w3.heap.size := by omega)); (try (have hyw3_wr : wr.heap.size ≤ w3.heap.size := by omega)); (try (have hyw3_wra : wr.heap.size + 1 ≤ w3.heap.size := by omega)); (have hbw3 : b < w3.heap.size := by omega); (have hblw3 : b ≤ w3.heap.size := by omega)) | (go_at_call 13; refine (refCheck_any _ _ _ _ _).mono ?_; rintro e w4 ⟨rfl, hw4⟩; obtain ⟨hcw4, hfw4⟩ := bcell hw4; (try (simp only [World.size_drew, World.cell?_drew, World.frozen?_drew] at hcw4 hfw4)); have hzw4 := hw4.size; (try (simp only [World.size_alloc, World.size_setCell, World.size_drew] at hzw4)); (try (have hzw4_w_0 : w.heap.size < w4.heap.size := by omega)); (try (have hzw4_w_1 : w.heap.size + 1 < w4.heap.size := by omega)); (try (have hzw4_w_2 : w.heap.size + 1 + 1 < w4.heap.size := by omega)); (try (have hzw4_w_3 : w.heap.size + 1 + 1 + 1 < w4.heap.size := by omega)); (try (have hyw4_w : w.heap.size ≤ w4.heap.size := by omega)); (try (have hyw4_wa : w.heap.size + 1 ≤ w4.heap.size := by omega)); (try (have hzw4_wr_0 : wr.heap.size < w4.heap.size := by omega)); (try (have hzw4_wr_1 : wr.heap.size + 1 < w4.heap.size := by omega)); (try (have hzw4_wr_2 : wr.heap.size + 1 + 1 < w4.heap.size := by omega)); (try (have hzw4_wr_3 : wr.heap.size + 1 + 1 + 1 < w4.heap.size := by omega)); (try (have hyw4_wr : wr.heap.size ≤ w4.heap.size := by omega)); (try (have hyw4_wra : wr.heap.size + 1 ≤ w4.heap.size := by omega)); (have hbw4 : b < w4.heap.size := by omega); (have hblw4 : b ≤ w4.heap.size := by omega)))
        all_goals go_wp2
        all_goals go_roundw
        all_goals first | (case measure => simp [intOf]; omega) | skip
        all_goals
          refine ⟨k + 1, by omega, by go_num, ?_⟩
          repeat (first | exact Below.refl _ _ | assumption | refine Below.alloc ?_ (by first | (simp; done) | (simp; omega) | omega) _ | refine Below.setCell ?_ (by first | (simp; done) | (simp; omega) | omega) _ | apply Below.drew | refine Below.trans ?_ (Below.mono (by assumption) (by first | (simp; done) | (simp; omega) | omega)))
      · have hge : ¬ ((k : Int) < (len : Int)) := by omega
        go_wp2_with (go_at_call 10; refine (works5_any _).mono ?_; rintro e ww ⟨rfl, hww⟩; obtain ⟨hcww, hfww⟩ := bcell hww; (try (simp only [World.size_drew, World.cell?_drew, World.frozen?_drew] at hcww hfww)); have hzww := hww.size; (try (simp only [World.size_alloc, World.size_setCell, World.size_drew] at hzww)); (try (have hzww_w_0 : w.heap.size < ww.heap.size := by omega)); (try (have hzww_w_1 : w.heap.size + 1 < ww.heap.size := by omega)); (try (have hzww_w_2 : w.heap.size + 1 + 1 < ww.heap.size := by omega)); (try (have hzww_w_3 : w.heap.size + 1 + 1 + 1 < ww.heap.size := by omega)); (try (have hyww_w : w.heap.size ≤ ww.heap.size := by omega)); (try (have hyww_wa : w.heap.size + 1 ≤ ww.heap.size := by omega)))
        go_ret
        refine ⟨rfl, ?_⟩
        repeat (first | exact Below.refl _ _ | assumption | refine Below.alloc ?_ (by first | (simp; done) | (simp; omega) | omega) _ | refine Below.setCell ?_ (by first | (simp; done) | (simp; omega) | omega) _ | apply Below.drew | refine Below.trans ?_ (Below.mono (by assumption) (by first | (simp; done) | (simp; omega) | omega)))
end Go.Proofs.Ytlhpphlfgjopbaa
