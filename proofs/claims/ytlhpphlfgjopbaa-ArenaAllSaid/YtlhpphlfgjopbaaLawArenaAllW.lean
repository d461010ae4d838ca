/- The walk of ArenaAll: it returns true. -/
import Derived.Test.YtlhpphlfgjopbaaArI
import Derived.Test.YtlhpphlfgjopbaaArH
import Derived.Test.YtlhpphlfgjopbaaArF
import Derived.Test.YtlhpphlfgjopbaaOp
import Derived.Deep.RegionHeld3
namespace Go.Proofs.Ytlhpphlfgjopbaa
set_option linter.unusedVariables false
set_option linter.unusedSimpArgs false
open Go.RowKit Go.Shelf

attribute [local go_sem] Oper.semAt_some
@[local go_sem] theorem eql_all2 (w : World) (f : Fn) (c a : Array Value) : (binOp .eql 46 (.func f c a) .nilFunc).run Try.prog w = .ok (.bool false) w := run_eql_func_nil w f c a (by kernel_rfl)

set_option maxRecDepth 100000 in
set_option maxHeartbeats 8000000 in
theorem arenaAll_walk (A : Option Addr) (len cap : Nat) (n : Int) (hwn : (Lit.int .i64 n).wf = true) (w : World) (hr : RowOk w 5 [.int .u64] A len cap) :
    Calls Try.prog 6 #[.slice A len cap, .int .i64 n] w fun e w' => e = .returned (.bool true) ∧ Below w.heap.size w w' := by
  have hm := hr.1
  have hm2 := hr.2.1
  unfold maxLen at hm2
  obtain ⟨b, o, z, hA, hc⟩ := hr.ints
  clear hr
  have HA := hide hA
  have HC := hide hc
  clear hA hc
  by_cases h0 : ¬ (1 ≤ len ∧ len ≤ 16384)
  · go_enter Try.func6, Try.ntmps6
    go_wp2_with fail
    refine (of_no _ _ _ (by omega) h0 _).mono ?_
    rintro e w1 ⟨rfl, hb1⟩
    have hz1 := hb1.size
    simp only [World.size_alloc] at hz1
    clear HA HC
    go_wp2_with fail
    refine (all_any _ ⟨_, rfl⟩ _).mono ?_
    rintro e w2 ⟨rfl, rfl⟩
    go_wp2_with (first | (go_at_call 11; refine (num5_any _ _).mono ?_; rintro e w' ⟨rfl, rfl⟩) | (go_at_call 10; refine (works5_any _).mono ?_; rintro e ww ⟨rfl, hww⟩; obtain ⟨hcww, hfww⟩ := bcell hww; (try (simp only [World.size_drew, World.cell?_drew, World.frozen?_drew] at hcww hfww)); have hzww := hww.size; (try (simp only [World.size_alloc, World.size_setCell, World.size_drew] at hzww)); (try (have hzww_w_0 : w.heap.size < ww.heap.size := by omega)); (try (have hzww_w_1 : w.heap.size + 1 < ww.heap.size := by omega)); (try (have hzww_w_2 : w.heap.size + 1 + 1 < ww.heap.size := by omega)); (try (have hzww_w_3 : w.heap.size + 1 + 1 + 1 < ww.heap.size := by omega)); (try (have hyww_w : w.heap.size ≤ ww.heap.size := by omega)); (try (have hyww_wa : w.heap.size + 1 ≤ ww.heap.size := by omega))))
    all_goals go_ret
    all_goals refine ⟨rfl, ?_⟩
    all_goals (repeat (first | exact Below.refl _ _ | assumption | refine Below.alloc ?_ (by first | (simp; done) | (simp; omega) | omega) _ | refine Below.setCell ?_ (by first | (simp; done) | (simp; omega) | omega) _ | apply Below.drew | refine Below.trans ?_ (Below.mono (by assumption) (by first | (simp; done) | (simp; omega) | omega))))
  obtain ⟨rfl, hb⟩ := unhide HA (by omega)
  have HC1 := hide (fun i (hi : i < len) => (unhide HC i hi).1)
  clear HA HC
  have hof := of_yes b o len cap z (by omega) (by omega) (w.alloc (.cells #[.int .i64 n] 3)) (by simp; omega) (fun i hi => ((Below.refl w.heap.size w).alloc (Nat.le_refl _) _ |>.cell (p := ⟨b, o + i, none⟩) hb).trans (unhide HC1 i hi))
  by_cases hl : 100 < len
  · go_enter Try.func6, Try.ntmps6
    go_wp2_with fail
    refine hof.mono ?_
    rintro e w1 ⟨g, h, rfl, hb1, hg, hh, H1⟩
    have hz1 := hb1.size
    simp only [World.size_alloc] at hz1
    clear H1 hof HC1
    go_wp2_with fail
    refine (all_any _ ⟨_, rfl⟩ _).mono ?_
    rintro e w2 ⟨rfl, rfl⟩
    go_wp2_with (first | (go_at_call 11; refine (num5_any _ _).mono ?_; rintro e w' ⟨rfl, rfl⟩) | (go_at_call 10; refine (works5_any _).mono ?_; rintro e ww ⟨rfl, hww⟩; obtain ⟨hcww, hfww⟩ := bcell hww; (try (simp only [World.size_drew, World.cell?_drew, World.frozen?_drew] at hcww hfww)); have hzww := hww.size; (try (simp only [World.size_alloc, World.size_setCell, World.size_drew] at hzww)); (try (have hzww_w_0 : w.heap.size < ww.heap.size := by omega)); (try (have hzww_w_1 : w.heap.size + 1 < ww.heap.size := by omega)); (try (have hzww_w_2 : w.heap.size + 1 + 1 < ww.heap.size := by omega)); (try (have hzww_w_3 : w.heap.size + 1 + 1 + 1 < ww.heap.size := by omega)); (try (have hyww_w : w.heap.size ≤ ww.heap.size := by omega)); (try (have hyww_wa : w.heap.size + 1 ≤ ww.heap.size := by omega))))
    all_goals go_ret
    all_goals refine ⟨rfl, ?_⟩
    all_goals (repeat (first | exact Below.refl _ _ | assumption | refine Below.alloc ?_ (by first | (simp; done) | (simp; omega) | omega) _ | refine Below.setCell ?_ (by first | (simp; done) | (simp; omega) | omega) _ | apply Below.drew | refine Below.trans ?_ (Below.mono (by assumption) (by first | (simp; done) | (simp; omega) | omega))))
  refine (callsIn_wide (n := 8)).1 ?_
  refine callsIn_of_wp_marks Try.func6 rfl trivial ?_ rfl
  simp only [Try.ntmps6, List.size_toArray, List.length_cons, List.length_nil, Nat.reduceAdd, Nat.reduceSub, Array.replicate_succ, Array.replicate_zero, List.push_toArray, List.append_toArray, List.nil_append, List.cons_append]
  gi_wp2
  refine ⟨trivial, ?_⟩
  refine (callsIn_wide.2 hof).mono ?_
  rintro e w1 ⟨g, h, rfl, hb1, hg, hh, H1⟩
  have hz1 := hb1.size
  simp only [World.size_alloc] at hz1 hg hh
  have H1 := hide H1
  have hmany : w1.cell? ⟨w.heap.size, 0, none⟩ = some (.int .i64 n) := (hb1.cell (p := ⟨w.heap.size, 0, none⟩) (by simp)).trans (by go_simp)
  have hBw1 : Below w.heap.size w w1 := by repeat (first | exact Below.refl _ _ | assumption | refine Below.alloc ?_ (by first | (simp; done) | (simp; omega) | omega) _ | refine Below.setCell ?_ (by first | (simp; done) | (simp; omega) | omega) _ | apply Below.drew | refine Below.trans ?_ (Below.mono (by assumption) (by first | (simp; done) | (simp; omega) | omega)))
  clear hof hb1
  gi_wp2
  refine ⟨trivial, ?_⟩
  refine (callsIn_wide.2 (all_any _ ⟨_, rfl⟩ _)).mono ?_
  rintro e w2 ⟨rfl, hE⟩
  have c5 : w2.cell? ⟨w1.heap.size, 0, none⟩ = some (.pointer (some ⟨g, 0, none⟩)) := by subst hE; go_simp
  have hb2 : Below w1.heap.size w1 w2 := by
    subst hE
    repeat (first | exact Below.refl _ _ | assumption | refine Below.alloc ?_ (by first | (simp; done) | (simp; omega) | omega) _ | refine Below.setCell ?_ (by first | (simp; done) | (simp; omega) | omega) _ | apply Below.drew | refine Below.trans ?_ (Below.mono (by assumption) (by first | (simp; done) | (simp; omega) | omega)))
  have hs2 : w2.heap.size = w1.heap.size + 1 := by subst hE; simp
  clear hE
  have H2 := hide ((unhide H1).keep hb2)
  gi_wp2
  refine ⟨trivial, ?_⟩
  refine (callsIn_wide.2 (num5_any _ _)).mono ?_
  rintro e w3 ⟨rfl, rfl⟩
  gi_wp2
  have bN := Boxed.new w2 3 (.int .i64 0)
  rw [hs2] at bN
  have hB3 : Below w2.heap.size w2 (w2.alloc (.cells #[.int .i64 0] 3)) := (Below.refl _ w2).alloc (Nat.le_refl _) _
  have hBw2 : Below w.heap.size w w2 := hBw1.trans (hb2.mono (by omega))
  have hBw3 : Below w.heap.size w (w2.alloc (.cells #[.int .i64 0] 3)) := hBw2.trans (hB3.mono (by omega))
  have hmany2 := (hb2.cell (p := ⟨w.heap.size, 0, none⟩) (by show w.heap.size < _; omega)).trans hmany
  have hmany3 := (hB3.cell (p := ⟨w.heap.size, 0, none⟩) (by show w.heap.size < _; omega)).trans hmany2
  have c6 := (hB3.cell (p := ⟨w1.heap.size, 0, none⟩) (by show w1.heap.size < _; omega)).trans c5
  have H3 := hide ((unhide H2).keep hB3)
  have hg2 : g < w2.heap.size := (unhide H2).2.1
  have hh2 : h < w2.heap.size := (unhide H2).2.2.1
  have hs3 : (w2.alloc (.cells #[.int .i64 0] 3)).heap.size = w1.heap.size + 1 + 1 := by simp [hs2]
  refine wpIn_rangeFunc_ownG rfl (by omega) (gf := 36) (lb := #[.pointer (some ⟨w1.heap.size, 0, none⟩)]) rfl trivial (enters_of Try.func36 (by kernel_rfl) rfl)
    (all_stops 7 (by omega) g h len w1.heap.size z w2.heap.size _ (unhide H3) hg2 hh2 (by omega) (by simp) c6) belowK_t (belowK_b (by simp)) (Below.refl _ _) (fun _ => rfl)
    (fun pre W => (((pre.length : Int) < n ∨ pre.length = 0) ∧ (W.cell? ⟨w1.heap.size + 1, 0, none⟩ = some (.int .i64 (pre.length : Int)) ∧ W.frozen? ⟨w1.heap.size + 1, 0, none⟩ = false) ∧
      W.cell? ⟨w.heap.size, 0, none⟩ = some (.int .i64 n)) ∧ Below w2.heap.size w2 W)
    (fun c pre W => ((c = .exit 0 ∧ 1 ≤ pre.length ∧ ((pre.length : Int) - 1 < n ∨ pre.length = 1) ∧ n ≤ (pre.length : Int)) ∧ (W.cell? ⟨w1.heap.size + 1, 0, none⟩ = some (.int .i64 (pre.length : Int)) ∧ W.cell? ⟨w.heap.size, 0, none⟩ = some (.int .i64 n))) ∧ Below w2.heap.size w2 W)
    (OwnFrom.and (Own.from (fun s A B row hs hgr hr => by
      obtain ⟨a1, ⟨a2, a3⟩, a4⟩ := hs
      exact ⟨a1, ⟨cell_kept a2 hgr hr, (frozen_kept a2 hgr hr).trans a3⟩, cell_kept a4 hgr hr⟩) _) (ownFrom_below (Nat.le_refl _) (by simp)))
    (fun c => OwnFrom.and (Own.from (fun s A B row hs hgr hr => by
      obtain ⟨a1, a2, a4⟩ := hs
      exact ⟨a1, cell_kept a2 hgr hr, cell_kept a4 hgr hr⟩) _) (ownFrom_below (Nat.le_refl _) (by simp)))
    ⟨⟨.inr rfl, ⟨bN.cell, bN.frozen⟩, hmany3⟩, hB3⟩
    (fun x => { tmps := #[Value.slice (some ⟨b, o, none⟩) len cap, Value.int .i64 n, undef, Value.pointer (some ⟨w.heap.size, 0, none⟩), Value.bool false, Value.pointer (some ⟨g, 0, none⟩), Value.int .i64 0, Value.func (.func 36) #[] #[.pointer (some ⟨w1.heap.size, 0, none⟩)], Value.pointer (some ⟨w1.heap.size + 1, 0, none⟩), Value.tuple #[.pointer (some ⟨g, 0, none⟩), .int .i64 0], Value.slice (some ⟨b, o, none⟩) len cap, Value.tuple #[.pointer (some ⟨g, 0, none⟩), .int .i64 0], Value.pointer (some ⟨g, 0, none⟩), Value.int .i64 0, Value.pointer (some ⟨g, 0, none⟩), Value.func (.func 36) #[] #[.pointer (some ⟨w1.heap.size, 0, none⟩)], Value.slice (some ⟨b, o, none⟩) len cap, Value.int .i64 (len : Int), Value.bool (decide (100 < (len : Int))), Value.bool (decide (100 < (len : Int))), Value.int .i64 0, Value.int .i64 0, Value.bool false, Value.bool (decide (100 < (len : Int))), undef, Value.func (.func 36) #[] #[.pointer (some ⟨w1.heap.size, 0, none⟩)], Value.bool false, Value.func (.func 36) #[] #[.pointer (some ⟨w1.heap.size, 0, none⟩)], Value.int .i64 (x : Int), Value.int .u64 (z x), undef, undef, undef, undef, undef, undef, undef, undef, undef, undef, undef, undef, undef, undef, undef, undef, undef, undef, undef, undef], defers := [] }) ?assign ?body ?done ?stop
  case assign =>
    intro l x W K hK
    gi_wp2
    exact hK
  case body =>
    rintro l pre x W ⟨⟨i1, ⟨i2, i3⟩, i4⟩, hB⟩ hlen
    have hmax : pre.length < 100000 := by omega
    gi_wp2
    · refine ⟨(KeepsOthers.setCell _ _ _).from _, ⟨⟨rfl, by simp, ?_, ?_⟩, ?_, ?_⟩, hB.setCell (p := ⟨w1.heap.size + 1, 0, none⟩) (by show w2.heap.size ≤ w1.heap.size + 1; omega) _⟩
      · rw [List.length_append, List.length_singleton]
        omega
      · rw [List.length_append, List.length_singleton]
        omega
      · rw [World.cell?_setCell_same' _ _ _ (by rw [i2]; rfl), List.length_append, List.length_singleton]
        go_num
      · rw [World.cell?_setCell_other _ _ _ _ (fun e => by injection e with e _ _; omega)]
        exact i4
    · refine ⟨(KeepsOthers.setCell _ _ _).from _, (Below.refl w2.heap.size W).setCell (p := ⟨w1.heap.size + 1, 0, none⟩) (by show w2.heap.size ≤ w1.heap.size + 1; omega) _, ⟨?_, ⟨?_, by rw [World.frozen?_setCell]; exact i3⟩, ?_⟩, hB.setCell (p := ⟨w1.heap.size + 1, 0, none⟩) (by show w2.heap.size ≤ w1.heap.size + 1; omega) _⟩
      · rw [List.length_append, List.length_singleton]
        omega
      · rw [World.cell?_setCell_same' _ _ _ (by rw [i2]; rfl), List.length_append, List.length_singleton]
        go_num
      · rw [World.cell?_setCell_other _ _ _ _ (fun e => by injection e with e _ _; omega)]
        exact i4
  case done =>
    rintro D ys W hD rfl ⟨⟨i1, ⟨i2, i3⟩, i4⟩, hB⟩ hK
    rw [List.length_range] at i1 i2
    have e1 : min (len : Int) (max 1 n) = (len : Int) := by omega
    have hBW : Below w.heap.size w W := hBw2.trans (hB.mono (by omega))
    have HW := hide ((unhide H2).keep hB)
    have hbW : b < W.heap.size := Nat.lt_of_lt_of_le hb hBW.size
    have HCW := hide (fun i (hi : i < len) => (hBW.cell (p := ⟨b, o + i, none⟩) hb).trans (unhide HC1 i hi))
    have hDW : D < W.heap.size := (Array.getElem?_eq_some_iff.1 hK).1
    have hwD : w.heap.size ≤ D := by omega
    gi_wp2
    all_goals refine ⟨trivial, ?_⟩
    all_goals refine (callsIn_wide.2 (has_true g h len z b o cap W (unhide HW) hbW (unhide HCW))).mono ?_
    all_goals rintro e w8 ⟨rfl, hb8⟩
    all_goals gi_wp2
    all_goals refine ⟨trivial, ?_⟩
    all_goals refine (callsIn_wide.2 (works5_any _)).mono ?_
    all_goals rintro e w9 ⟨rfl, hb9⟩
    all_goals gi_wp2
    all_goals have hK9 := (hb9.block D (Nat.lt_of_lt_of_le hDW hb8.size)).trans ((hb8.block D hDW).trans hK)
    all_goals refine ⟨by simp, .inl ⟨_, _, rfl, run_takeDeferred hK9, ?_⟩⟩
    all_goals exact ⟨_, results_tmp rfl _ _ _, rfl, (hBW.trans ((hb8.mono hBW.size).trans (hb9.mono (Nat.le_trans hBW.size hb8.size)))).trans (belowK_b (w := w) (Nat.le_refl _) w9 D _ _ hwD hK9 rfl rfl)⟩
  case stop =>
    rintro D c pre W hD ⟨k, hk, rfl⟩ ⟨⟨⟨rfl, j1, j2, j3⟩, i2, i4⟩, hB⟩ hK
    rw [List.length_range] at j1 j2 j3 i2
    have e1 : min (len : Int) (max 1 n) = (k : Int) := by omega
    have hBW : Below w.heap.size w W := hBw2.trans (hB.mono (by omega))
    have HW := hide ((unhide H2).keep hB)
    have hbW : b < W.heap.size := Nat.lt_of_lt_of_le hb hBW.size
    have HCW := hide (fun i (hi : i < len) => (hBW.cell (p := ⟨b, o + i, none⟩) hb).trans (unhide HC1 i hi))
    have hDW : D < W.heap.size := (Array.getElem?_eq_some_iff.1 hK).1
    have hwD : w.heap.size ≤ D := by omega
    gi_wp2
    all_goals refine ⟨trivial, ?_⟩
    all_goals refine (callsIn_wide.2 (has_true g h len z b o cap W (unhide HW) hbW (unhide HCW))).mono ?_
    all_goals rintro e w8 ⟨rfl, hb8⟩
    all_goals gi_wp2
    all_goals refine ⟨trivial, ?_⟩
    all_goals refine (callsIn_wide.2 (works5_any _)).mono ?_
    all_goals rintro e w9 ⟨rfl, hb9⟩
    all_goals gi_wp2
    all_goals have hK9 := (hb9.block D (Nat.lt_of_lt_of_le hDW hb8.size)).trans ((hb8.block D hDW).trans hK)
    all_goals refine ⟨by simp, .inl ⟨_, _, rfl, run_takeDeferred hK9, ?_⟩⟩
    all_goals exact ⟨_, results_tmp rfl _ _ _, rfl, (hBW.trans ((hb8.mono hBW.size).trans (hb9.mono (Nat.le_trans hBW.size hb8.size)))).trans (belowK_b (w := w) (Nat.le_refl _) w9 D _ _ hwD hK9 rfl rfl)⟩
end Go.Proofs.Ytlhpphlfgjopbaa
