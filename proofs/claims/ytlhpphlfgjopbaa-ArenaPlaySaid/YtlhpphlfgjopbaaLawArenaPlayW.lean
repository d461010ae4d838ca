/- The walk of ArenaPlay: it returns true. -/
import Derived.Test.YtlhpphlfgjopbaaArI
import Derived.Test.YtlhpphlfgjopbaaArJ
import Derived.Test.YtlhpphlfgjopbaaArF
import Derived.Test.YtlhpphlfgjopbaaOp
import Derived.Deep.RegionHeld3
namespace Go.Proofs.Ytlhpphlfgjopbaa
set_option linter.unusedVariables false
set_option linter.unusedSimpArgs false
open Go.RowKit

set_option maxRecDepth 100000 in
set_option maxHeartbeats 8000000 in
theorem arenaPlay_walk (A : Option Addr) (len cap : Nat) (A2 : Option Addr) (len2 cap2 : Nat) (w : World) (hr : RowOk w 5 [.int .u64] A len cap) (hr2 : RowOk w 5 [.int .i64, .int .i64, .int .u64, .int .u64] A2 len2 cap2) :
    Calls Try.prog 5 #[.slice A len cap, .slice A2 len2 cap2] w fun e w' => e = .returned (.bool true) ∧ Below w.heap.size w w' := by
  have hm := hr.1
  have hm2 := hr.2.1
  have hm3 := hr2.1
  have hm4 := hr2.2.1
  unfold maxLen at hm2 hm4
  obtain ⟨b, o, z, hA, hc⟩ := hr.ints
  obtain ⟨b2, o2, y, hA2, hc2⟩ := hr2.intN [.i64, .i64, .u64, .u64]
  clear hr hr2
  have HA := hide hA
  have HC := hide hc
  have HA2 := hide hA2
  have HC2 := hide hc2
  clear hA hc hA2 hc2
  by_cases hz : len = 0
  · go_enter Try.func5, Try.ntmps5
    go_wp2_with fail
    refine (of_no _ _ _ (by omega) (by omega) _).mono ?_
    rintro e w1 ⟨rfl, hb1⟩
    have hz1 := hb1.size
    clear HA HC HA2 HC2
    subst hz
    go_wp2_with (first | (go_at_call 11; refine (num5_any _ _).mono ?_; rintro e w' ⟨rfl, rfl⟩) | (go_at_call 10; refine (works5_any _).mono ?_; rintro e ww ⟨rfl, hww⟩; obtain ⟨hcww, hfww⟩ := bcell hww; (try (simp only [World.size_drew, World.cell?_drew, World.frozen?_drew] at hcww hfww)); have hzww := hww.size; (try (simp only [World.size_alloc, World.size_setCell, World.size_drew] at hzww)); (try (have hzww_w_0 : w.heap.size < ww.heap.size := by omega)); (try (have hzww_w_1 : w.heap.size + 1 < ww.heap.size := by omega)); (try (have hzww_w_2 : w.heap.size + 1 + 1 < ww.heap.size := by omega)); (try (have hzww_w_3 : w.heap.size + 1 + 1 + 1 < ww.heap.size := by omega)); (try (have hyww_w : w.heap.size ≤ ww.heap.size := by omega)); (try (have hyww_wa : w.heap.size + 1 ≤ ww.heap.size := by omega))))
    all_goals go_ret
    all_goals refine ⟨rfl, ?_⟩
    all_goals (repeat (first | exact Below.refl _ _ | assumption | refine Below.alloc ?_ (by first | (simp; done) | (simp; omega) | omega) _ | refine Below.setCell ?_ (by first | (simp; done) | (simp; omega) | omega) _ | apply Below.drew | refine Below.trans ?_ (Below.mono (by assumption) (by first | (simp; done) | (simp; omega) | omega))))
  by_cases hy : 16384 < len
  · go_enter Try.func5, Try.ntmps5
    go_wp2_with fail
    refine (of_no _ _ _ (by omega) (by omega) _).mono ?_
    rintro e w1 ⟨rfl, hb1⟩
    have hz1 := hb1.size
    clear HA HC HA2 HC2
    have hl : 300 < len := by omega
    go_wp2_with (first | (go_at_call 11; refine (num5_any _ _).mono ?_; rintro e w' ⟨rfl, rfl⟩) | (go_at_call 10; refine (works5_any _).mono ?_; rintro e ww ⟨rfl, hww⟩; obtain ⟨hcww, hfww⟩ := bcell hww; (try (simp only [World.size_drew, World.cell?_drew, World.frozen?_drew] at hcww hfww)); have hzww := hww.size; (try (simp only [World.size_alloc, World.size_setCell, World.size_drew] at hzww)); (try (have hzww_w_0 : w.heap.size < ww.heap.size := by omega)); (try (have hzww_w_1 : w.heap.size + 1 < ww.heap.size := by omega)); (try (have hzww_w_2 : w.heap.size + 1 + 1 < ww.heap.size := by omega)); (try (have hzww_w_3 : w.heap.size + 1 + 1 + 1 < ww.heap.size := by omega)); (try (have hyww_w : w.heap.size ≤ ww.heap.size := by omega)); (try (have hyww_wa : w.heap.size + 1 ≤ ww.heap.size := by omega))))
    all_goals go_ret
    all_goals refine ⟨rfl, ?_⟩
    all_goals (repeat (first | exact Below.refl _ _ | assumption | refine Below.alloc ?_ (by first | (simp; done) | (simp; omega) | omega) _ | refine Below.setCell ?_ (by first | (simp; done) | (simp; omega) | omega) _ | apply Below.drew | refine Below.trans ?_ (Below.mono (by assumption) (by first | (simp; done) | (simp; omega) | omega))))
  obtain ⟨rfl, hb⟩ := unhide HA (by omega)
  have HC1 := hide (fun i (hi : i < len) => (unhide HC i hi).1)
  clear HA HC
  have hof := of_yes b o len cap z (by omega) (by omega) w hb (unhide HC1)
  have h01 : ((len : Int) == 0) = false := by simp; omega
  have h02 : ¬ (len : Int) = 0 := by omega
  by_cases hl : 300 < len ∨ 80 < len2
  · go_enter Try.func5, Try.ntmps5
    go_wp2_with fail
    refine hof.mono ?_
    rintro e w1 ⟨g, h, rfl, hb1, hg, hh, H1⟩
    have hz1 := hb1.size
    clear H1 hof HC1 HA2 HC2
    rcases hl with hl | hl
    · go_wp2_with (first | (go_at_call 11; refine (num5_any _ _).mono ?_; rintro e w' ⟨rfl, rfl⟩) | (go_at_call 10; refine (works5_any _).mono ?_; rintro e ww ⟨rfl, hww⟩; obtain ⟨hcww, hfww⟩ := bcell hww; (try (simp only [World.size_drew, World.cell?_drew, World.frozen?_drew] at hcww hfww)); have hzww := hww.size; (try (simp only [World.size_alloc, World.size_setCell, World.size_drew] at hzww)); (try (have hzww_w_0 : w.heap.size < ww.heap.size := by omega)); (try (have hzww_w_1 : w.heap.size + 1 < ww.heap.size := by omega)); (try (have hzww_w_2 : w.heap.size + 1 + 1 < ww.heap.size := by omega)); (try (have hzww_w_3 : w.heap.size + 1 + 1 + 1 < ww.heap.size := by omega)); (try (have hyww_w : w.heap.size ≤ ww.heap.size := by omega)); (try (have hyww_wa : w.heap.size + 1 ≤ ww.heap.size := by omega))))
      all_goals go_ret
      all_goals refine ⟨rfl, ?_⟩
      all_goals (repeat (first | exact Below.refl _ _ | assumption | refine Below.alloc ?_ (by first | (simp; done) | (simp; omega) | omega) _ | refine Below.setCell ?_ (by first | (simp; done) | (simp; omega) | omega) _ | apply Below.drew | refine Below.trans ?_ (Below.mono (by assumption) (by first | (simp; done) | (simp; omega) | omega))))
    · go_wp2_with (first | (go_at_call 11; refine (num5_any _ _).mono ?_; rintro e w' ⟨rfl, rfl⟩) | (go_at_call 10; refine (works5_any _).mono ?_; rintro e ww ⟨rfl, hww⟩; obtain ⟨hcww, hfww⟩ := bcell hww; (try (simp only [World.size_drew, World.cell?_drew, World.frozen?_drew] at hcww hfww)); have hzww := hww.size; (try (simp only [World.size_alloc, World.size_setCell, World.size_drew] at hzww)); (try (have hzww_w_0 : w.heap.size < ww.heap.size := by omega)); (try (have hzww_w_1 : w.heap.size + 1 < ww.heap.size := by omega)); (try (have hzww_w_2 : w.heap.size + 1 + 1 < ww.heap.size := by omega)); (try (have hzww_w_3 : w.heap.size + 1 + 1 + 1 < ww.heap.size := by omega)); (try (have hyww_w : w.heap.size ≤ ww.heap.size := by omega)); (try (have hyww_wa : w.heap.size + 1 ≤ ww.heap.size := by omega))))
      all_goals go_ret
      all_goals refine ⟨rfl, ?_⟩
      all_goals (repeat (first | exact Below.refl _ _ | assumption | refine Below.alloc ?_ (by first | (simp; done) | (simp; omega) | omega) _ | refine Below.setCell ?_ (by first | (simp; done) | (simp; omega) | omega) _ | apply Below.drew | refine Below.trans ?_ (Below.mono (by assumption) (by first | (simp; done) | (simp; omega) | omega))))
  have hl1 : ¬ 300 < len := by omega
  have hl2 : ¬ 80 < len2 := by omega
  go_enter Try.func5, Try.ntmps5
  go_wp2_with fail
  refine hof.mono ?_
  rintro e w1 ⟨g, h, rfl, hb1, hg, hh, H1⟩
  have hz1 := hb1.size
  have H1 := hide H1
  clear hof hl
  go_wp2_with (go_at_call 11; refine (num5_any _ _).mono ?_; rintro e w' ⟨rfl, rfl⟩)
  go_loopw [7, 0] (fun i s wr => ∃ (k : Nat) (xs : Nat → Int) (B off C : Nat), k ≤ len2 ∧ i = .int .i64 k ∧ s = .slice (some ⟨B, off, none⟩) len C ∧ Below w.heap.size w wr ∧ B < wr.heap.size ∧ B ≠ h ∧
      Hid (∀ i, i < len → wr.cell? ⟨B, off + i, none⟩ = some (.int .u64 (xs i))) ∧ Hid (IsAr wr g h len xs)) (fun i _ _ => len2 - (intOf i).toNat)
  case atStart => exact ⟨0, z, b, o, cap, by omega, rfl, rfl, hb1, by omega, by omega, hide (fun i hi => (hb1.cell (p := ⟨b, o + i, none⟩) hb).trans (unhide HC1 i hi)), H1⟩
  case round =>
    obtain ⟨k, xs, B, off, C, hk, rfl, rfl, hB, hBs, hBh, HX, HR⟩ := hrel
    have hsz := hB.size
    by_cases hlt : k < len2
    · obtain ⟨rfl, hb2⟩ := unhide HA2 (by omega)
      have c0 : wr.cell? ⟨b2, o2 + k * 4, none⟩ = some (.int .i64 (y k 0)) := (hB.cell (p := ⟨b2, o2 + k * 4, none⟩) hb2).trans (unhide HC2 k hlt 0 .i64 rfl).1
      have c1 : wr.cell? ⟨b2, o2 + k * 4 + 1, none⟩ = some (.int .i64 (y k 1)) := (hB.cell (p := ⟨b2, o2 + k * 4 + 1, none⟩) hb2).trans (unhide HC2 k hlt 1 .i64 rfl).1
      have c2 : wr.cell? ⟨b2, o2 + k * 4 + 2, none⟩ = some (.int .u64 (y k 2)) := (hB.cell (p := ⟨b2, o2 + k * 4 + 2, none⟩) hb2).trans (unhide HC2 k hlt 2 .u64 rfl).1
      have c3 : wr.cell? ⟨b2, o2 + k * 4 + 3, none⟩ = some (.int .u64 (y k 3)) := (hB.cell (p := ⟨b2, o2 + k * 4 + 3, none⟩) hb2).trans (unhide HC2 k hlt 3 .u64 rfl).1
      have b0 : (0 : Int) ≤ (k : Int) := by omega
      have b1 : (k : Int) < (len2 : Int) := by omega
      clear HA2 HC2 HC1
      go_wp2_with fail
      refine (do_any g h len xs (y k 0) (y k 1) (y k 2) (y k 3) wr (unhide HR)).mono ?_
      rintro e w2 ⟨rfl, hg2, H2⟩
      have HX2 := hide (cells_grown hg2 hBs hBh (unhide HX))
      have hB2 := hB.grown hg2 hsz (fun k e => by cases e; omega)
      have hz2 := hg2.size
      have d0 : w2.cell? ⟨b2, o2 + k * 4, none⟩ = _ := (hB2.cell (p := ⟨b2, o2 + k * 4, none⟩) hb2).trans ((hB.cell (p := ⟨b2, o2 + k * 4, none⟩) hb2).symm.trans c0)
      have d1 : w2.cell? ⟨b2, o2 + k * 4 + 1, none⟩ = _ := (hB2.cell (p := ⟨b2, o2 + k * 4 + 1, none⟩) hb2).trans ((hB.cell (p := ⟨b2, o2 + k * 4 + 1, none⟩) hb2).symm.trans c1)
      have d2 : w2.cell? ⟨b2, o2 + k * 4 + 2, none⟩ = _ := (hB2.cell (p := ⟨b2, o2 + k * 4 + 2, none⟩) hb2).trans ((hB.cell (p := ⟨b2, o2 + k * 4 + 2, none⟩) hb2).symm.trans c2)
      have d3 : w2.cell? ⟨b2, o2 + k * 4 + 3, none⟩ = _ := (hB2.cell (p := ⟨b2, o2 + k * 4 + 3, none⟩) hb2).trans ((hB.cell (p := ⟨b2, o2 + k * 4 + 3, none⟩) hb2).symm.trans c3)
      have H2 := hide H2
      clear c0 c1 c2 c3 HR HX
      go_wp2_with fail
      refine (refDo_any B off len C xs (by omega) (by omega) (y k 0) (y k 1) (y k 2) (y k 3) w2 (by omega) (unhide HX2)).mono ?_
      rintro e w3 ⟨B3, off3, C3, rfl, hb3, hs3, hne3, hX3⟩
      have HX3 := hide hX3
      have H3 := hide ((unhide H2).keep hb3)
      have hz3 := hb3.size
      have hB3 : Below w.heap.size w w3 := hB2.trans (hb3.mono (by omega))
      have hh2 : h < w2.heap.size := (unhide H2).2.2.1
      have hne4 : B3 ≠ h := by omega
      clear d0 d1 d2 d3 H2 HX2 hX3 hne3 hb3 hg2 hB2
      go_wp2_with (go_at_call 11; refine (num5_any _ _).mono ?_; rintro e w' ⟨rfl, rfl⟩)
      all_goals go_roundw
      all_goals first | (case measure => simp [intOf]; omega) | skip
      all_goals exact ⟨k + 1, _, B3, off3, C3, by omega, by go_num, rfl, hB3, hs3, hne4, HX3, H3⟩
    · have hge : ¬ ((k : Int) < (len2 : Int)) := by omega
      go_wp2_with fail
      refine (has_true g h len xs B off C wr (unhide HR) hBs (unhide HX)).mono ?_
      rintro e w4 ⟨rfl, hb4⟩
      have hz4 := hb4.size
      go_wp2_with (go_at_call 10; refine (works5_any _).mono ?_; rintro e ww ⟨rfl, hww⟩; obtain ⟨hcww, hfww⟩ := bcell hww; (try (simp only [World.size_drew, World.cell?_drew, World.frozen?_drew] at hcww hfww)); have hzww := hww.size; (try (simp only [World.size_alloc, World.size_setCell, World.size_drew] at hzww)); (try (have hzww_w_0 : w.heap.size < ww.heap.size := by omega)); (try (have hzww_w_1 : w.heap.size + 1 < ww.heap.size := by omega)); (try (have hzww_w_2 : w.heap.size + 1 + 1 < ww.heap.size := by omega)); (try (have hzww_w_3 : w.heap.size + 1 + 1 + 1 < ww.heap.size := by omega)); (try (have hyww_w : w.heap.size ≤ ww.heap.size := by omega)); (try (have hyww_wa : w.heap.size + 1 ≤ ww.heap.size := by omega)))
      go_ret
      refine ⟨rfl, ?_⟩
      repeat (first | exact Below.refl _ _ | assumption | refine Below.alloc ?_ (by first | (simp; done) | (simp; omega) | omega) _ | refine Below.setCell ?_ (by first | (simp; done) | (simp; omega) | omega) _ | apply Below.drew | refine Below.trans ?_ (Below.mono (by assumption) (by first | (simp; done) | (simp; omega) | omega)))
end Go.Proofs.Ytlhpphlfgjopbaa
