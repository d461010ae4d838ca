/- The walk of ArenaCalls: it returns true. -/
import Derived.Test.YtlhpphlfgjopbaaArI
import Derived.Test.YtlhpphlfgjopbaaArJ
import Derived.Test.YtlhpphlfgjopbaaArF
import Derived.Test.YtlhpphlfgjopbaaOp
import Derived.Deep.RegionHeld3
namespace Go.Proofs.Ytlhpphlfgjopbaa
set_option linter.unusedVariables false
set_option linter.unusedSimpArgs false
open Go.RowKit

theorem box_kept {P Q : World} {h b o : Nat} {v : Value} (hg : P.grownBy Q (some h)) (hb : b < P.heap.size) (hne : b ≠ h) (hc : P.cell? ⟨b, o, none⟩ = some v) : Q.cell? ⟨b, o, none⟩ = some v :=
  (World.cell?_of_block (a := ⟨b, o, none⟩) (hg.block b hb (by simpa using fun e => hne (by omega)))).trans hc

theorem box_frozen {P Q : World} {h b o : Nat} (hg : P.grownBy Q (some h)) (hb : b < P.heap.size) (hne : b ≠ h) : Q.frozen? ⟨b, o, none⟩ = P.frozen? ⟨b, o, none⟩ :=
  World.frozen?_of_block (hg.block b hb (by simpa using fun e => hne (by omega)))

theorem IsAr.keepAt {w W : World} {g h n B : Nat} {xs : Nat → Int} (H : IsAr w g h n xs) (hb : Below B w W) (hg : g < B) (hh : h < B) (hs : w.heap.size ≤ W.heap.size) : IsAr W g h n xs := by
  obtain ⟨h1, h2, h3, h4, h5, h6⟩ := H
  refine ⟨(hb.cell (p := ⟨g, 0, none⟩) hg).trans h1, Nat.lt_of_lt_of_le h2 hs, Nat.lt_of_lt_of_le h3 hs, h4, h5, fun i hi => ?_⟩
  exact ⟨(hb.cell (p := ⟨h, i, none⟩) hh).trans (h6 i hi).1, (hb.frozen (p := ⟨h, i, none⟩) hh).trans (h6 i hi).2⟩

theorem rLoad_any (a : Int) (w : World) : Calls Try.prog 21 #[.int .i64 a] w fun e w' => e = .returned (.agg #[.int .i64 1, .int .i64 a, .int .u64 0, .int .u64 0]) ∧ Below w.heap.size w w' := by
  go_enter Try.func21, Try.ntmps21
  go_wp2
  refine bodyPost_ret (v := .agg #[.int .i64 1, .int .i64 a, .int .u64 0, .int .u64 0]) (by simp only [results, Try.results21]; go_simp) rfl ?_
  refine ⟨rfl, ?_⟩
  repeat (first | exact Below.refl _ _ | assumption | refine Below.alloc ?_ (by first | (simp; done) | (simp; omega) | omega) _ | refine Below.setCell ?_ (by first | (simp; done) | (simp; omega) | omega) _ | apply Below.drew | refine Below.trans ?_ (Below.mono (by assumption) (by first | (simp; done) | (simp; omega) | omega)))

theorem rStore_any (a v : Int) (w : World) : Calls Try.prog 23 #[.int .i64 a, .int .u64 v] w fun e w' => e = .returned (.agg #[.int .i64 2, .int .i64 a, .int .u64 0, .int .u64 v]) ∧ Below w.heap.size w w' := by
  go_enter Try.func23, Try.ntmps23
  go_wp2
  refine bodyPost_ret (v := .agg #[.int .i64 2, .int .i64 a, .int .u64 0, .int .u64 v]) (by simp only [results, Try.results23]; go_simp) rfl ?_
  refine ⟨rfl, ?_⟩
  repeat (first | exact Below.refl _ _ | assumption | refine Below.alloc ?_ (by first | (simp; done) | (simp; omega) | omega) _ | refine Below.setCell ?_ (by first | (simp; done) | (simp; omega) | omega) _ | apply Below.drew | refine Below.trans ?_ (Below.mono (by assumption) (by first | (simp; done) | (simp; omega) | omega)))

theorem rCas_any (a o v : Int) (w : World) : Calls Try.prog 25 #[.int .i64 a, .int .u64 o, .int .u64 v] w fun e w' => e = .returned (.agg #[.int .i64 3, .int .i64 a, .int .u64 o, .int .u64 v]) ∧ Below w.heap.size w w' := by
  go_enter Try.func25, Try.ntmps25
  go_wp2
  refine bodyPost_ret (v := .agg #[.int .i64 3, .int .i64 a, .int .u64 o, .int .u64 v]) (by simp only [results, Try.results25]; go_simp) rfl ?_
  refine ⟨rfl, ?_⟩
  repeat (first | exact Below.refl _ _ | assumption | refine Below.alloc ?_ (by first | (simp; done) | (simp; omega) | omega) _ | refine Below.setCell ?_ (by first | (simp; done) | (simp; omega) | omega) _ | apply Below.drew | refine Below.trans ?_ (Below.mono (by assumption) (by first | (simp; done) | (simp; omega) | omega)))

set_option maxRecDepth 100000 in
set_option maxHeartbeats 8000000 in
theorem arenaCalls_walk (A : Option Addr) (len cap : Nat) (A2 : Option Addr) (len2 cap2 : Nat) (w : World) (hr : RowOk w 5 [.int .u64] A len cap) (hr2 : RowOk w 5 [.int .i64, .int .i64, .int .u64, .int .u64] A2 len2 cap2) :
    Calls Try.prog 7 #[.slice A len cap, .slice A2 len2 cap2] w fun e w' => e = .returned (.bool true) ∧ Below w.heap.size w w' := by
  have hm := hr.1
  have hm2 := hr.2.1
  have hm3 := hr2.1
  have hm4 := hr2.2.1
  unfold maxLen at hm2 hm4
  obtain ⟨b, o, z, hA, hc⟩ := hr.ints
  obtain ⟨b2, o2, y, hA2, hc2⟩ := hr2.intN [.i64, .i64, .u64, .u64]
  clear hr hr2
  have HA := hide hA
  have HC := hide hc
  have HA2 := hide hA2
  have HC2 := hide hc2
  clear hA hc hA2 hc2
  by_cases hz : len = 0
  · go_enter Try.func7, Try.ntmps7
    go_wp2_with fail
    refine (of_no _ _ _ (by omega) (by omega) _).mono ?_
    rintro e w1 ⟨rfl, hb1⟩
    have hz1 := hb1.size
    clear HA HC HA2 HC2
    subst hz
    go_wp2_with (first | (go_at_call 11; refine (num5_any _ _).mono ?_; rintro e w' ⟨rfl, rfl⟩) | (go_at_call 10; refine (works5_any _).mono ?_; rintro e ww ⟨rfl, hww⟩; obtain ⟨hcww, hfww⟩ := bcell hww; (try (simp only [World.size_drew, World.cell?_drew, World.frozen?_drew] at hcww hfww)); have hzww := hww.size; (try (simp only [World.size_alloc, World.size_setCell, World.size_drew] at hzww)); (try (have hzww_w_0 : w.heap.size < ww.heap.size := by omega)); (try (have hzww_w_1 : w.heap.size + 1 < ww.heap.size := by omega)); (try (have hzww_w_2 : w.heap.size + 1 + 1 < ww.heap.size := by omega)); (try (have hzww_w_3 : w.heap.size + 1 + 1 + 1 < ww.heap.size := by omega)); (try (have hyww_w : w.heap.size ≤ ww.heap.size := by omega)); (try (have hyww_wa : w.heap.size + 1 ≤ ww.heap.size := by omega))))
    all_goals go_ret
    all_goals refine ⟨rfl, ?_⟩
    all_goals (repeat (first | exact Below.refl _ _ | assumption | refine Below.alloc ?_ (by first | (simp; done) | (simp; omega) | omega) _ | refine Below.setCell ?_ (by first | (simp; done) | (simp; omega) | omega) _ | apply Below.drew | refine Below.trans ?_ (Below.mono (by assumption) (by first | (simp; done) | (simp; omega) | omega))))
  by_cases hy : 16384 < len
  · go_enter Try.func7, Try.ntmps7
    go_wp2_with fail
    refine (of_no _ _ _ (by omega) (by omega) _).mono ?_
    rintro e w1 ⟨rfl, hb1⟩
    have hz1 := hb1.size
    clear HA HC HA2 HC2
    have hl : 300 < len := by omega
    go_wp2_with (first | (go_at_call 11; refine (num5_any _ _).mono ?_; rintro e w' ⟨rfl, rfl⟩) | (go_at_call 10; refine (works5_any _).mono ?_; rintro e ww ⟨rfl, hww⟩; obtain ⟨hcww, hfww⟩ := bcell hww; (try (simp only [World.size_drew, World.cell?_drew, World.frozen?_drew] at hcww hfww)); have hzww := hww.size; (try (simp only [World.size_alloc, World.size_setCell, World.size_drew] at hzww)); (try (have hzww_w_0 : w.heap.size < ww.heap.size := by omega)); (try (have hzww_w_1 : w.heap.size + 1 < ww.heap.size := by omega)); (try (have hzww_w_2 : w.heap.size + 1 + 1 < ww.heap.size := by omega)); (try (have hzww_w_3 : w.heap.size + 1 + 1 + 1 < ww.heap.size := by omega)); (try (have hyww_w : w.heap.size ≤ ww.heap.size := by omega)); (try (have hyww_wa : w.heap.size + 1 ≤ ww.heap.size := by omega))))
    all_goals go_ret
    all_goals refine ⟨rfl, ?_⟩
    all_goals (repeat (first | exact Below.refl _ _ | assumption | refine Below.alloc ?_ (by first | (simp; done) | (simp; omega) | omega) _ | refine Below.setCell ?_ (by first | (simp; done) | (simp; omega) | omega) _ | apply Below.drew | refine Below.trans ?_ (Below.mono (by assumption) (by first | (simp; done) | (simp; omega) | omega))))
  obtain ⟨rfl, hb⟩ := unhide HA (by omega)
  have HC1 := hide (fun i (hi : i < len) => (unhide HC i hi).1)
  clear HA HC
  have hof := of_yes b o len cap z (by omega) (by omega) w hb (unhide HC1)
  have h01 : ((len : Int) == 0) = false := by simp; omega
  have h02 : ¬ (len : Int) = 0 := by omega
  by_cases hl : 300 < len ∨ 40 < len2
  · go_enter Try.func7, Try.ntmps7
    go_wp2_with fail
    refine hof.mono ?_
    rintro e w1 ⟨g, h, rfl, hb1, hg, hh, H1⟩
    have hz1 := hb1.size
    clear H1 hof HC1 HA2 HC2
    rcases hl with hl | hl
    · go_wp2_with (first | (go_at_call 11; refine (num5_any _ _).mono ?_; rintro e w' ⟨rfl, rfl⟩) | (go_at_call 10; refine (works5_any _).mono ?_; rintro e ww ⟨rfl, hww⟩; obtain ⟨hcww, hfww⟩ := bcell hww; (try (simp only [World.size_drew, World.cell?_drew, World.frozen?_drew] at hcww hfww)); have hzww := hww.size; (try (simp only [World.size_alloc, World.size_setCell, World.size_drew] at hzww)); (try (have hzww_w_0 : w.heap.size < ww.heap.size := by omega)); (try (have hzww_w_1 : w.heap.size + 1 < ww.heap.size := by omega)); (try (have hzww_w_2 : w.heap.size + 1 + 1 < ww.heap.size := by omega)); (try (have hzww_w_3 : w.heap.size + 1 + 1 + 1 < ww.heap.size := by omega)); (try (have hyww_w : w.heap.size ≤ ww.heap.size := by omega)); (try (have hyww_wa : w.heap.size + 1 ≤ ww.heap.size := by omega))))
      all_goals go_ret
      all_goals refine ⟨rfl, ?_⟩
      all_goals (repeat (first | exact Below.refl _ _ | assumption | refine Below.alloc ?_ (by first | (simp; done) | (simp; omega) | omega) _ | refine Below.setCell ?_ (by first | (simp; done) | (simp; omega) | omega) _ | apply Below.drew | refine Below.trans ?_ (Below.mono (by assumption) (by first | (simp; done) | (simp; omega) | omega))))
    · go_wp2_with (first | (go_at_call 11; refine (num5_any _ _).mono ?_; rintro e w' ⟨rfl, rfl⟩) | (go_at_call 10; refine (works5_any _).mono ?_; rintro e ww ⟨rfl, hww⟩; obtain ⟨hcww, hfww⟩ := bcell hww; (try (simp only [World.size_drew, World.cell?_drew, World.frozen?_drew] at hcww hfww)); have hzww := hww.size; (try (simp only [World.size_alloc, World.size_setCell, World.size_drew] at hzww)); (try (have hzww_w_0 : w.heap.size < ww.heap.size := by omega)); (try (have hzww_w_1 : w.heap.size + 1 < ww.heap.size := by omega)); (try (have hzww_w_2 : w.heap.size + 1 + 1 < ww.heap.size := by omega)); (try (have hzww_w_3 : w.heap.size + 1 + 1 + 1 < ww.heap.size := by omega)); (try (have hyww_w : w.heap.size ≤ ww.heap.size := by omega)); (try (have hyww_wa : w.heap.size + 1 ≤ ww.heap.size := by omega))))
      all_goals go_ret
      all_goals refine ⟨rfl, ?_⟩
      all_goals (repeat (first | exact Below.refl _ _ | assumption | refine Below.alloc ?_ (by first | (simp; done) | (simp; omega) | omega) _ | refine Below.setCell ?_ (by first | (simp; done) | (simp; omega) | omega) _ | apply Below.drew | refine Below.trans ?_ (Below.mono (by assumption) (by first | (simp; done) | (simp; omega) | omega))))
  have hl1 : ¬ 300 < len := by omega
  have hl2 : ¬ 40 < len2 := by omega
  go_enter Try.func7, Try.ntmps7
  go_wp2_with fail
  refine hof.mono ?_
  rintro e w1 ⟨g, h, rfl, hb1, hg, hh, H1⟩
  have hz1 := hb1.size
  have H1 := hide H1
  clear hof hl
  go_wp2_with (go_at_call 11; refine (num5_any _ _).mono ?_; rintro e w' ⟨rfl, rfl⟩)
  go_loopw [7, 0] (fun i s wr => ∃ (k : Nat) (xs : Nat → Int) (B off C : Nat), k ≤ len2 ∧ i = .int .i64 k ∧ s = .slice (some ⟨B, off, none⟩) len C ∧ Below w.heap.size w wr ∧ B < wr.heap.size ∧ B ≠ h ∧
      Hid (∀ i, i < len → wr.cell? ⟨B, off + i, none⟩ = some (.int .u64 (xs i))) ∧ Hid (IsAr wr g h len xs)) (fun i _ _ => len2 - (intOf i).toNat)
  case atStart => exact ⟨0, z, b, o, cap, by omega, rfl, rfl, hb1, by omega, by omega, hide (fun i hi => (hb1.cell (p := ⟨b, o + i, none⟩) hb).trans (unhide HC1 i hi)), H1⟩
  case round =>
    obtain ⟨k, xs, B, off, C, hk, rfl, rfl, hB, hBs, hBh, HX, HR⟩ := hrel
    have hsz := hB.size
    by_cases hlt : k < len2
    · obtain ⟨rfl, hb2⟩ := unhide HA2 (by omega)
      have c0 : wr.cell? ⟨b2, o2 + k * 4, none⟩ = some (.int .i64 (y k 0)) := (hB.cell (p := ⟨b2, o2 + k * 4, none⟩) hb2).trans (unhide HC2 k hlt 0 .i64 rfl).1
      have c1 : wr.cell? ⟨b2, o2 + k * 4 + 1, none⟩ = some (.int .i64 (y k 1)) := (hB.cell (p := ⟨b2, o2 + k * 4 + 1, none⟩) hb2).trans (unhide HC2 k hlt 1 .i64 rfl).1
      have c2 : wr.cell? ⟨b2, o2 + k * 4 + 2, none⟩ = some (.int .u64 (y k 2)) := (hB.cell (p := ⟨b2, o2 + k * 4 + 2, none⟩) hb2).trans (unhide HC2 k hlt 2 .u64 rfl).1
      have c3 : wr.cell? ⟨b2, o2 + k * 4 + 3, none⟩ = some (.int .u64 (y k 3)) := (hB.cell (p := ⟨b2, o2 + k * 4 + 3, none⟩) hb2).trans (unhide HC2 k hlt 3 .u64 rfl).1
      have b0 : (0 : Int) ≤ (k : Int) := by omega
      have b1 : (k : Int) < (len2 : Int) := by omega
      obtain ⟨K, hK⟩ : ∃ K, y k 0 = K := ⟨_, rfl⟩
      obtain ⟨a, ha⟩ : ∃ K, y k 1 = K := ⟨_, rfl⟩
      obtain ⟨q, hq⟩ : ∃ K, y k 2 = K := ⟨_, rfl⟩
      obtain ⟨v, hv⟩ : ∃ K, y k 3 = K := ⟨_, rfl⟩
      rw [hK] at c0
      rw [ha] at c1
      rw [hq] at c2
      rw [hv] at c3
      clear HA2 HC2 HC1 hK ha hq hv
      have hgr : g < wr.heap.size := (unhide HR).2.1
      have hhr : h < wr.heap.size := (unhide HR).2.2.1
      by_cases h1 : K = 1
      · subst h1
        have hP := hide (Below.alloc (Below.alloc (Below.refl wr.heap.size wr) (Nat.le_refl _) (.cells #[.int .i64 1, .int .i64 a, .int .u64 q, .int .u64 v] 30)) (by simp) (.cells #[.int .i64 0, .int .i64 0, .int .u64 0, .int .u64 0] 30))
        go_wp2_with fail
        refine (ld_any g h len xs a _ ((unhide HR).keep (unhide hP))).mono ?_
        rintro e w2 ⟨rfl, hg2, H2⟩
        have hz2 := hg2.size
        simp only [World.size_alloc] at hz2
        have x0 : w2.cell? ⟨wr.heap.size, 0, none⟩ = some (.int .i64 1) := box_kept hg2 (by simp only [World.size_alloc]; omega) (by omega) (by go_simp)
        have x1 : w2.cell? ⟨wr.heap.size, 1, none⟩ = some (.int .i64 a) := box_kept hg2 (by simp only [World.size_alloc]; omega) (by omega) (by go_simp)
        have x2 : w2.cell? ⟨wr.heap.size, 2, none⟩ = some (.int .u64 q) := box_kept hg2 (by simp only [World.size_alloc]; omega) (by omega) (by go_simp)
        have x3 : w2.cell? ⟨wr.heap.size, 3, none⟩ = some (.int .u64 v) := box_kept hg2 (by simp only [World.size_alloc]; omega) (by omega) (by go_simp)
        have y0 : w2.cell? ⟨wr.heap.size + 1, 0, none⟩ = some (.int .i64 0) := box_kept hg2 (by simp only [World.size_alloc]; omega) (by omega) (by go_simp)
        have f0 : w2.frozen? ⟨wr.heap.size + 1, 0, none⟩ = false := (box_frozen hg2 (by simp only [World.size_alloc]; omega) (by omega)).trans (by go_simp)
        have y1 : w2.cell? ⟨wr.heap.size + 1, 1, none⟩ = some (.int .i64 0) := box_kept hg2 (by simp only [World.size_alloc]; omega) (by omega) (by go_simp)
        have f1 : w2.frozen? ⟨wr.heap.size + 1, 1, none⟩ = false := (box_frozen hg2 (by simp only [World.size_alloc]; omega) (by omega)).trans (by go_simp)
        have y2 : w2.cell? ⟨wr.heap.size + 1, 2, none⟩ = some (.int .u64 0) := box_kept hg2 (by simp only [World.size_alloc]; omega) (by omega) (by go_simp)
        have f2 : w2.frozen? ⟨wr.heap.size + 1, 2, none⟩ = false := (box_frozen hg2 (by simp only [World.size_alloc]; omega) (by omega)).trans (by go_simp)
        have y3 : w2.cell? ⟨wr.heap.size + 1, 3, none⟩ = some (.int .u64 0) := box_kept hg2 (by simp only [World.size_alloc]; omega) (by omega) (by go_simp)
        have f3 : w2.frozen? ⟨wr.heap.size + 1, 3, none⟩ = false := (box_frozen hg2 (by simp only [World.size_alloc]; omega) (by omega)).trans (by go_simp)
        have HX2 := hide (cells_grown hg2 (by simp only [World.size_alloc]; omega) hBh (fun i hi => ((unhide hP).cell (p := ⟨B, off + i, none⟩) hBs).trans (unhide HX i hi)))
        have hB2 := (hB.trans ((unhide hP).mono hsz)).grown hg2 (by simp only [World.size_alloc]; omega) (fun k e => by cases e; omega)
        have H2 := hide H2
        clear c0 c1 c2 c3 HR HX hP hg2
        go_wp2_with fail
        refine (rLoad_any a _).mono ?_
        rintro e w3 ⟨rfl, hb3⟩
        have hz3 := hb3.size
        have l1 : wr.heap.size + 1 < w2.heap.size := by omega
        have y0 := (hb3.cell (p := ⟨wr.heap.size + 1, 0, none⟩) l1).trans y0
        have f0 := (hb3.frozen (p := ⟨wr.heap.size + 1, 0, none⟩) l1).trans f0
        have y1 := (hb3.cell (p := ⟨wr.heap.size + 1, 1, none⟩) l1).trans y1
        have f1 := (hb3.frozen (p := ⟨wr.heap.size + 1, 1, none⟩) l1).trans f1
        have y2 := (hb3.cell (p := ⟨wr.heap.size + 1, 2, none⟩) l1).trans y2
        have f2 := (hb3.frozen (p := ⟨wr.heap.size + 1, 2, none⟩) l1).trans f2
        have y3 := (hb3.cell (p := ⟨wr.heap.size + 1, 3, none⟩) l1).trans y3
        have f3 := (hb3.frozen (p := ⟨wr.heap.size + 1, 3, none⟩) l1).trans f3
        clear x0 x1 x2 x3
        go_wp2_with fail
        refine (refDo_any B off len C xs (by omega) (by omega) 1 a 0 0 _ (by simp only [World.size_setCell]; omega) (fun i hi => (Below.cell (p := ⟨B, off + i, none⟩) (by repeat (first | exact Below.refl _ _ | assumption | refine Below.alloc ?_ (by first | (simp; done) | (simp; omega) | omega) _ | refine Below.setCell ?_ (by first | (simp; done) | (simp; omega) | omega) _ | apply Below.drew | refine Below.trans ?_ (Below.mono (by assumption) (by first | (simp; done) | (simp; omega) | omega))) : Below wr.heap.size w2 _) hBs).trans (unhide HX2 i hi))).mono ?_
        rintro e w4 ⟨B4, off4, C4, rfl, hb4, hs4, hne4, hX4⟩
        have hW4 : Below wr.heap.size w2 w4 := by repeat (first | exact Below.refl _ _ | assumption | refine Below.alloc ?_ (by first | (simp; done) | (simp; omega) | omega) _ | refine Below.setCell ?_ (by first | (simp; done) | (simp; omega) | omega) _ | apply Below.drew | refine Below.trans ?_ (Below.mono (by assumption) (by first | (simp; done) | (simp; omega) | omega)))
        have hB4 : Below w.heap.size w w4 := hB2.trans (hW4.mono hsz)
        have hss : w2.heap.size ≤ w4.heap.size := by
          have := hb4.size
          simp only [World.size_setCell] at this
          omega
        have H4 := hide ((unhide H2).keepAt hW4 hgr hhr hss)
        rw [show doX len xs 1 a 0 0 = xs by simp [doX]] at hX4
        clear H2 HX2
        have HX4 := hide hX4
        have hz4 := hb4.size
        simp only [World.size_setCell, World.size_alloc] at hz4 hne4
        have hne5 : B4 ≠ h := by omega
        clear hX4 hne4 hb4
        go_wp2_with (go_at_call 11; refine (num5_any _ _).mono ?_; rintro e w' ⟨rfl, rfl⟩)
        all_goals go_roundw
        all_goals first | (case measure => simp [intOf]; omega) | skip
        all_goals exact ⟨k + 1, _, B4, off4, C4, by omega, by go_num, rfl, hB4, hs4, hne5, HX4, H4⟩
      by_cases h2 : K = 2
      · subst h2
        have hP := hide (Below.alloc (Below.alloc (Below.refl wr.heap.size wr) (Nat.le_refl _) (.cells #[.int .i64 2, .int .i64 a, .int .u64 q, .int .u64 v] 30)) (by simp) (.cells #[.int .i64 0, .int .i64 0, .int .u64 0, .int .u64 0] 30))
        go_wp2_with fail
        refine (st_any g h len xs a v _ ((unhide HR).keep (unhide hP))).mono ?_
        rintro e w2 ⟨rfl, hg2, H2⟩
        have hz2 := hg2.size
        simp only [World.size_alloc] at hz2
        have x0 : w2.cell? ⟨wr.heap.size, 0, none⟩ = some (.int .i64 2) := box_kept hg2 (by simp only [World.size_alloc]; omega) (by omega) (by go_simp)
        have x1 : w2.cell? ⟨wr.heap.size, 1, none⟩ = some (.int .i64 a) := box_kept hg2 (by simp only [World.size_alloc]; omega) (by omega) (by go_simp)
        have x2 : w2.cell? ⟨wr.heap.size, 2, none⟩ = some (.int .u64 q) := box_kept hg2 (by simp only [World.size_alloc]; omega) (by omega) (by go_simp)
        have x3 : w2.cell? ⟨wr.heap.size, 3, none⟩ = some (.int .u64 v) := box_kept hg2 (by simp only [World.size_alloc]; omega) (by omega) (by go_simp)
        have y0 : w2.cell? ⟨wr.heap.size + 1, 0, none⟩ = some (.int .i64 0) := box_kept hg2 (by simp only [World.size_alloc]; omega) (by omega) (by go_simp)
        have f0 : w2.frozen? ⟨wr.heap.size + 1, 0, none⟩ = false := (box_frozen hg2 (by simp only [World.size_alloc]; omega) (by omega)).trans (by go_simp)
        have y1 : w2.cell? ⟨wr.heap.size + 1, 1, none⟩ = some (.int .i64 0) := box_kept hg2 (by simp only [World.size_alloc]; omega) (by omega) (by go_simp)
        have f1 : w2.frozen? ⟨wr.heap.size + 1, 1, none⟩ = false := (box_frozen hg2 (by simp only [World.size_alloc]; omega) (by omega)).trans (by go_simp)
        have y2 : w2.cell? ⟨wr.heap.size + 1, 2, none⟩ = some (.int .u64 0) := box_kept hg2 (by simp only [World.size_alloc]; omega) (by omega) (by go_simp)
        have f2 : w2.frozen? ⟨wr.heap.size + 1, 2, none⟩ = false := (box_frozen hg2 (by simp only [World.size_alloc]; omega) (by omega)).trans (by go_simp)
        have y3 : w2.cell? ⟨wr.heap.size + 1, 3, none⟩ = some (.int .u64 0) := box_kept hg2 (by simp only [World.size_alloc]; omega) (by omega) (by go_simp)
        have f3 : w2.frozen? ⟨wr.heap.size + 1, 3, none⟩ = false := (box_frozen hg2 (by simp only [World.size_alloc]; omega) (by omega)).trans (by go_simp)
        have HX2 := hide (cells_grown hg2 (by simp only [World.size_alloc]; omega) hBh (fun i hi => ((unhide hP).cell (p := ⟨B, off + i, none⟩) hBs).trans (unhide HX i hi)))
        have hB2 := (hB.trans ((unhide hP).mono hsz)).grown hg2 (by simp only [World.size_alloc]; omega) (fun k e => by cases e; omega)
        have H2 := hide H2
        clear c0 c1 c2 c3 HR HX hP hg2
        go_wp2_with fail
        refine (rStore_any a v _).mono ?_
        rintro e w3 ⟨rfl, hb3⟩
        have hz3 := hb3.size
        have l1 : wr.heap.size + 1 < w2.heap.size := by omega
        have y0 := (hb3.cell (p := ⟨wr.heap.size + 1, 0, none⟩) l1).trans y0
        have f0 := (hb3.frozen (p := ⟨wr.heap.size + 1, 0, none⟩) l1).trans f0
        have y1 := (hb3.cell (p := ⟨wr.heap.size + 1, 1, none⟩) l1).trans y1
        have f1 := (hb3.frozen (p := ⟨wr.heap.size + 1, 1, none⟩) l1).trans f1
        have y2 := (hb3.cell (p := ⟨wr.heap.size + 1, 2, none⟩) l1).trans y2
        have f2 := (hb3.frozen (p := ⟨wr.heap.size + 1, 2, none⟩) l1).trans f2
        have y3 := (hb3.cell (p := ⟨wr.heap.size + 1, 3, none⟩) l1).trans y3
        have f3 := (hb3.frozen (p := ⟨wr.heap.size + 1, 3, none⟩) l1).trans f3
        clear x0 x1 x2 x3
        go_wp2_with fail
        refine (refDo_any B off len C xs (by omega) (by omega) 2 a 0 v _ (by simp only [World.size_setCell]; omega) (fun i hi => (Below.cell (p := ⟨B, off + i, none⟩) (by repeat (first | exact Below.refl _ _ | assumption | refine Below.alloc ?_ (by first | (simp; done) | (simp; omega) | omega) _ | refine Below.setCell ?_ (by first | (simp; done) | (simp; omega) | omega) _ | apply Below.drew | refine Below.trans ?_ (Below.mono (by assumption) (by first | (simp; done) | (simp; omega) | omega))) : Below wr.heap.size w2 _) hBs).trans (unhide HX2 i hi))).mono ?_
        rintro e w4 ⟨B4, off4, C4, rfl, hb4, hs4, hne4, hX4⟩
        have hW4 : Below wr.heap.size w2 w4 := by repeat (first | exact Below.refl _ _ | assumption | refine Below.alloc ?_ (by first | (simp; done) | (simp; omega) | omega) _ | refine Below.setCell ?_ (by first | (simp; done) | (simp; omega) | omega) _ | apply Below.drew | refine Below.trans ?_ (Below.mono (by assumption) (by first | (simp; done) | (simp; omega) | omega)))
        have hB4 : Below w.heap.size w w4 := hB2.trans (hW4.mono hsz)
        have hss : w2.heap.size ≤ w4.heap.size := by
          have := hb4.size
          simp only [World.size_setCell] at this
          omega
        have H4 := hide ((unhide H2).keepAt hW4 hgr hhr hss)
        have hA : doA len xs 2 a 0 v = 0 := by simp [doA]
        clear H2 HX2
        have HX4 := hide hX4
        have hz4 := hb4.size
        simp only [World.size_setCell, World.size_alloc] at hz4 hne4
        have hne5 : B4 ≠ h := by omega
        clear hX4 hne4 hb4
        go_wp2_with (go_at_call 11; refine (num5_any _ _).mono ?_; rintro e w' ⟨rfl, rfl⟩)
        all_goals go_roundw
        all_goals first | (case measure => simp [intOf]; omega) | skip
        all_goals exact ⟨k + 1, _, B4, off4, C4, by omega, by go_num, rfl, hB4, hs4, hne5, HX4, H4⟩
      by_cases h3 : K = 3
      · subst h3
        have hP := hide (Below.alloc (Below.alloc (Below.refl wr.heap.size wr) (Nat.le_refl _) (.cells #[.int .i64 3, .int .i64 a, .int .u64 q, .int .u64 v] 30)) (by simp) (.cells #[.int .i64 0, .int .i64 0, .int .u64 0, .int .u64 0] 30))
        go_wp2_with fail
        refine (cs_any g h len xs a q v _ ((unhide HR).keep (unhide hP))).mono ?_
        rintro e w2 ⟨rfl, hg2, H2⟩
        have hz2 := hg2.size
        simp only [World.size_alloc] at hz2
        have x0 : w2.cell? ⟨wr.heap.size, 0, none⟩ = some (.int .i64 3) := box_kept hg2 (by simp only [World.size_alloc]; omega) (by omega) (by go_simp)
        have x1 : w2.cell? ⟨wr.heap.size, 1, none⟩ = some (.int .i64 a) := box_kept hg2 (by simp only [World.size_alloc]; omega) (by omega) (by go_simp)
        have x2 : w2.cell? ⟨wr.heap.size, 2, none⟩ = some (.int .u64 q) := box_kept hg2 (by simp only [World.size_alloc]; omega) (by omega) (by go_simp)
        have x3 : w2.cell? ⟨wr.heap.size, 3, none⟩ = some (.int .u64 v) := box_kept hg2 (by simp only [World.size_alloc]; omega) (by omega) (by go_simp)
        have y0 : w2.cell? ⟨wr.heap.size + 1, 0, none⟩ = some (.int .i64 0) := box_kept hg2 (by simp only [World.size_alloc]; omega) (by omega) (by go_simp)
        have f0 : w2.frozen? ⟨wr.heap.size + 1, 0, none⟩ = false := (box_frozen hg2 (by simp only [World.size_alloc]; omega) (by omega)).trans (by go_simp)
        have y1 : w2.cell? ⟨wr.heap.size + 1, 1, none⟩ = some (.int .i64 0) := box_kept hg2 (by simp only [World.size_alloc]; omega) (by omega) (by go_simp)
        have f1 : w2.frozen? ⟨wr.heap.size + 1, 1, none⟩ = false := (box_frozen hg2 (by simp only [World.size_alloc]; omega) (by omega)).trans (by go_simp)
        have y2 : w2.cell? ⟨wr.heap.size + 1, 2, none⟩ = some (.int .u64 0) := box_kept hg2 (by simp only [World.size_alloc]; omega) (by omega) (by go_simp)
        have f2 : w2.frozen? ⟨wr.heap.size + 1, 2, none⟩ = false := (box_frozen hg2 (by simp only [World.size_alloc]; omega) (by omega)).trans (by go_simp)
        have y3 : w2.cell? ⟨wr.heap.size + 1, 3, none⟩ = some (.int .u64 0) := box_kept hg2 (by simp only [World.size_alloc]; omega) (by omega) (by go_simp)
        have f3 : w2.frozen? ⟨wr.heap.size + 1, 3, none⟩ = false := (box_frozen hg2 (by simp only [World.size_alloc]; omega) (by omega)).trans (by go_simp)
        have HX2 := hide (cells_grown hg2 (by simp only [World.size_alloc]; omega) hBh (fun i hi => ((unhide hP).cell (p := ⟨B, off + i, none⟩) hBs).trans (unhide HX i hi)))
        have hB2 := (hB.trans ((unhide hP).mono hsz)).grown hg2 (by simp only [World.size_alloc]; omega) (fun k e => by cases e; omega)
        have H2 := hide H2
        clear c0 c1 c2 c3 HR HX hP hg2
        go_wp2_with fail
        refine (rCas_any a q v _).mono ?_
        rintro e w3 ⟨rfl, hb3⟩
        have hz3 := hb3.size
        have l1 : wr.heap.size + 1 < w2.heap.size := by omega
        have y0 := (hb3.cell (p := ⟨wr.heap.size + 1, 0, none⟩) l1).trans y0
        have f0 := (hb3.frozen (p := ⟨wr.heap.size + 1, 0, none⟩) l1).trans f0
        have y1 := (hb3.cell (p := ⟨wr.heap.size + 1, 1, none⟩) l1).trans y1
        have f1 := (hb3.frozen (p := ⟨wr.heap.size + 1, 1, none⟩) l1).trans f1
        have y2 := (hb3.cell (p := ⟨wr.heap.size + 1, 2, none⟩) l1).trans y2
        have f2 := (hb3.frozen (p := ⟨wr.heap.size + 1, 2, none⟩) l1).trans f2
        have y3 := (hb3.cell (p := ⟨wr.heap.size + 1, 3, none⟩) l1).trans y3
        have f3 := (hb3.frozen (p := ⟨wr.heap.size + 1, 3, none⟩) l1).trans f3
        clear x0 x1 x2 x3
        go_wp2_with fail
        refine (refDo_any B off len C xs (by omega) (by omega) 3 a q v _ (by simp only [World.size_setCell]; omega) (fun i hi => (Below.cell (p := ⟨B, off + i, none⟩) (by repeat (first | exact Below.refl _ _ | assumption | refine Below.alloc ?_ (by first | (simp; done) | (simp; omega) | omega) _ | refine Below.setCell ?_ (by first | (simp; done) | (simp; omega) | omega) _ | apply Below.drew | refine Below.trans ?_ (Below.mono (by assumption) (by first | (simp; done) | (simp; omega) | omega))) : Below wr.heap.size w2 _) hBs).trans (unhide HX2 i hi))).mono ?_
        rintro e w4 ⟨B4, off4, C4, rfl, hb4, hs4, hne4, hX4⟩
        have hW4 : Below wr.heap.size w2 w4 := by repeat (first | exact Below.refl _ _ | assumption | refine Below.alloc ?_ (by first | (simp; done) | (simp; omega) | omega) _ | refine Below.setCell ?_ (by first | (simp; done) | (simp; omega) | omega) _ | apply Below.drew | refine Below.trans ?_ (Below.mono (by assumption) (by first | (simp; done) | (simp; omega) | omega)))
        have hB4 : Below w.heap.size w w4 := hB2.trans (hW4.mono hsz)
        have hss : w2.heap.size ≤ w4.heap.size := by
          have := hb4.size
          simp only [World.size_setCell] at this
          omega
        have H4 := hide ((unhide H2).keepAt hW4 hgr hhr hss)
        clear H2 HX2
        have HX4 := hide hX4
        have hz4 := hb4.size
        simp only [World.size_setCell, World.size_alloc] at hz4 hne4
        have hne5 : B4 ≠ h := by omega
        clear hX4 hne4 hb4
        go_wp2_with (go_at_call 11; refine (num5_any _ _).mono ?_; rintro e w' ⟨rfl, rfl⟩)
        all_goals go_roundw
        all_goals first | (case measure => simp [intOf]; omega) | skip
        all_goals exact ⟨k + 1, _, B4, off4, C4, by omega, by go_num, rfl, hB4, hs4, hne5, HX4, H4⟩
      have k1 : (K == 1) = false := by simpa using h1
      have k2 : (K == 2) = false := by simpa using h2
      have k3 : (K == 3) = false := by simpa using h3
      have hP := hide (Below.alloc (Below.alloc (Below.refl wr.heap.size wr) (Nat.le_refl _) (.cells #[.int .i64 K, .int .i64 a, .int .u64 q, .int .u64 v] 30)) (by simp) (.cells #[.int .i64 0, .int .i64 0, .int .u64 0, .int .u64 0] 30))
      go_wp2_with fail
      refine (refDo_any B off len C xs (by omega) (by omega) 0 0 0 0 _ (by simp only [World.size_alloc]; omega) (fun i hi => ((unhide hP).cell (p := ⟨B, off + i, none⟩) hBs).trans (unhide HX i hi))).mono ?_
      rintro e w4 ⟨B4, off4, C4, rfl, hb4, hs4, hne4, hX4⟩
      have hW4 : Below wr.heap.size wr w4 := by repeat (first | exact Below.refl _ _ | assumption | refine Below.alloc ?_ (by first | (simp; done) | (simp; omega) | omega) _ | refine Below.setCell ?_ (by first | (simp; done) | (simp; omega) | omega) _ | apply Below.drew | refine Below.trans ?_ (Below.mono (by assumption) (by first | (simp; done) | (simp; omega) | omega)))
      have hB4 : Below w.heap.size w w4 := hB.trans (hW4.mono hsz)
      have H4 := hide ((unhide HR).keep hW4)
      have e1 : doE len 0 0 0 0 = 0 := by simp [doE, accB]
      have e2 : doA len xs 0 0 0 0 = 0 := by simp [doA]
      rw [show doX len xs 0 0 0 0 = xs by simp [doX]] at hX4
      clear HR HX hP c0 c1 c2 c3
      have HX4 := hide hX4
      have hz4 := hb4.size
      simp only [World.size_setCell, World.size_alloc] at hz4 hne4
      have hne5 : B4 ≠ h := by omega
      clear hX4 hne4 hb4
      go_wp2_with (go_at_call 11; refine (num5_any _ _).mono ?_; rintro e w' ⟨rfl, rfl⟩)
      all_goals go_roundw
      all_goals first | (case measure => simp [intOf]; omega) | skip
      all_goals exact ⟨k + 1, _, B4, off4, C4, by omega, by go_num, rfl, hB4, hs4, hne5, HX4, H4⟩
    · have hge : ¬ ((k : Int) < (len2 : Int)) := by omega
      go_wp2_with fail
      refine (has_true g h len xs B off C wr (unhide HR) hBs (unhide HX)).mono ?_
      rintro e w4 ⟨rfl, hb4⟩
      have hz4 := hb4.size
      go_wp2_with (go_at_call 10; refine (works5_any _).mono ?_; rintro e ww ⟨rfl, hww⟩; obtain ⟨hcww, hfww⟩ := bcell hww; (try (simp only [World.size_drew, World.cell?_drew, World.frozen?_drew] at hcww hfww)); have hzww := hww.size; (try (simp only [World.size_alloc, World.size_setCell, World.size_drew] at hzww)); (try (have hzww_w_0 : w.heap.size < ww.heap.size := by omega)); (try (have hzww_w_1 : w.heap.size + 1 < ww.heap.size := by omega)); (try (have hzww_w_2 : w.heap.size + 1 + 1 < ww.heap.size := by omega)); (try (have hzww_w_3 : w.heap.size + 1 + 1 + 1 < ww.heap.size := by omega)); (try (have hyww_w : w.heap.size ≤ ww.heap.size := by omega)); (try (have hyww_wa : w.heap.size + 1 ≤ ww.heap.size := by omega)))
      go_ret
      refine ⟨rfl, ?_⟩
      repeat (first | exact Below.refl _ _ | assumption | refine Below.alloc ?_ (by first | (simp; done) | (simp; omega) | omega) _ | refine Below.setCell ?_ (by first | (simp; done) | (simp; omega) | omega) _ | apply Below.drew | refine Below.trans ?_ (Below.mono (by assumption) (by first | (simp; done) | (simp; omega) | omega)))
end Go.Proofs.Ytlhpphlfgjopbaa
