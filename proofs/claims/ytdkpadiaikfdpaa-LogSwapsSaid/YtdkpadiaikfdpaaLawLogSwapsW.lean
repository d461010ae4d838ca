/- The walk of LogSwaps: it returns true. -/
import Derived.Test.YtdkpadiaikfdpaaLgW
import Derived.Test.YtdkpadiaikfdpaaLgS
import Derived.Deep.AppendSrc
import Derived.Lib.AppendZeros
import Derived.Deep.RegionHeld3
import Derived.Deep.DeepCutAuto
import Derived.IntWalk
namespace Go.Proofs.Ytdkpadiaikfdpaa
set_option linter.unusedVariables false
set_option linter.unusedSimpArgs false
open Go.RowKit

theorem info_step : (Try.prog.info? 47).map (fun i => (i.zero, i.size, i.bytes)) = some (some (.agg #[.int .i64 0, .int .i64 0, .int .i64 0, .int .u64 0, .int .u64 0, .int .u64 0]), 6, 48) := by kernel_rfl

/-- A cell of a step. -/
def cellV (st : Nat → Nat → Int) (i r : Nat) : Value := if r < 3 then .int .i64 (st i r) else .int .u64 (st i r)

def stepsL (n : Nat) (st : Nat → Nat → Int) : List Value := (List.range (n * 6)).map fun j => cellV st (j / 6) (j % 6)

theorem stepsL_get {n : Nat} {st : Nat → Nat → Int} {j : Nat} {v : Value} (h : (stepsL n st)[j]? = some v) : j < n * 6 ∧ v = cellV st (j / 6) (j % 6) := by
  unfold stepsL at h
  rw [List.getElem?_map] at h
  by_cases hj : j < n * 6
  · rw [List.getElem?_range hj] at h
    exact ⟨hj, by simpa using h.symm⟩
  · rw [List.getElem?_eq_none (by simp; omega)] at h
    cases h

theorem StOk.at6 {w : World} {b o len : Nat} {st : Nat → Nat → Int} (h : StOk w (some ⟨b, o, none⟩) len st) {j : Nat} (hj : j < len * 6) : w.cell? ⟨b, o + j, none⟩ = some (cellV st (j / 6) (j % 6)) := by
  obtain ⟨b', o', e, _, hc⟩ := h (by omega)
  injection e with e
  injection e with e1 e2 _
  subst e1 e2
  obtain ⟨c0, c1, c2, c3, c4, c5⟩ := hc (j / 6) (by omega)
  have hq : j = j / 6 * 6 + j % 6 := by omega
  have hr : j % 6 < 6 := Nat.mod_lt _ (by omega)
  generalize j / 6 = q at *
  generalize j % 6 = r at *
  subst hq
  rw [← Nat.add_assoc]
  match r, hr with
  | 0, _ => exact c0
  | 1, _ => exact c1
  | 2, _ => exact c2
  | 3, _ => exact c3
  | 4, _ => exact c4
  | 5, _ => exact c5

theorem StOk.of_at {w : World} {b len : Nat} {st : Nat → Nat → Int} (hb : b < w.heap.size) (h : ∀ i, i < len → ∀ r, r < 6 → w.cell? ⟨b, i * 6 + r, none⟩ = some (cellV st i r)) : StOk w (some ⟨b, 0, none⟩) len st := fun _ =>
  ⟨b, 0, rfl, hb, fun i hi => by
    rw [Nat.zero_add]
    exact ⟨h i hi 0 (by omega), h i hi 1 (by omega), h i hi 2 (by omega), h i hi 3 (by omega), h i hi 4 (by omega), h i hi 5 (by omega)⟩⟩

theorem cloneS_run (b o n cap : Nat) (st : Nat → Nat → Int) (hn1 : 1 ≤ n) (hn2 : n ≤ 16384) (W : World) (hS : StOk W (some ⟨b, o, none⟩) n st) :
    ∃ C W', (Builtin.append_ #[23, 23] 23 #[.slice none 0 0, .slice (some ⟨b, o, none⟩) n cap]).run Try.prog W = .ok (.slice (some ⟨W.heap.size, 0, none⟩) n C) W' ∧ Below W.heap.size W W' ∧ W.heap.size < W'.heap.size ∧ n ≤ C ∧
      ∀ i, i < n → ∀ r, r < 6 → W'.cell? ⟨W.heap.size, i * 6 + r, none⟩ = some (cellV st i r) ∧ W'.frozen? ⟨W.heap.size, i * 6 + r, none⟩ = false := by
  obtain ⟨i0, hi, hz0, hz1, hz2⟩ := info_parts info_step
  have hl : (stepsL n st).length = n * 6 := by simp [stepsL]
  have hs : Src Try.prog i0.size 23 (.slice (some ⟨b, o, none⟩) n cap) n (stepsL n st) W := by
    refine Src.ofSlice W Try.underlying23 _ n cap _ (by rw [hl, hz1]) (fun j u hj => ?_) (fun u hu => ?_)
    · obtain ⟨hj1, rfl⟩ := stepsL_get hj
      rw [Addr.add_lit]
      exact hS.at6 hj1
    · obtain ⟨j, hj⟩ := List.mem_iff_getElem?.1 hu
      obtain ⟨_, rfl⟩ := stepsL_get hj
      unfold cellV
      split <;> rfl
  have hrun := run_append_grow_src (P := Try.prog) W 23 23 23 47 i0 _ Try.underlying23 hi hz0 none 0 0 [] (run_firstCells_none W.drew i0.size 0 0 0) _ n (stepsL n st) hs (by omega) (by omega)
    (growslice_fits (by omega) (by rw [hz2]; omega))
  simp only [Nat.zero_add] at hrun
  refine ⟨_, _, hrun, ?_, ?_, ?_, fun i hi r hr => ⟨?_, ?_⟩⟩
  · exact Below.alloc (Below.refl _ _).drew (Nat.le_refl _) _
  · simp
  · exact grownCap_ge _ _ _ _
  · have e1 := World.cell?_alloc_new W.drew (([] ++ stepsL n st).toArray ++ Builtin.zeroCells (Value.cells (.agg #[.int .i64 0, .int .i64 0, .int .i64 0, .int .u64 0, .int .u64 0, .int .u64 0])) (grownCap W n 0 47 - n)) 47 (i * 6 + r)
    refine e1.trans ?_
    rw [Array.getElem?_append_left (by simp [hl]; omega), List.getElem?_toArray]
    have h1 : (i * 6 + r) / 6 = i := by omega
    have h2 : (i * 6 + r) % 6 = r := by omega
    simp only [List.nil_append, stepsL, List.getElem?_map]
    rw [List.getElem?_range (by omega)]
    simp [h1, h2]
  · exact World.frozen?_alloc_new W.drew _ _ (i * 6 + r)

/-- Six cells stored. -/
def put6 (W : World) (g q : Nat) (f : Nat → Int) : World :=
  (((((W.setCell ⟨g, q, none⟩ (.int .i64 (f 0))).setCell ⟨g, q + 1, none⟩ (.int .i64 (f 1))).setCell ⟨g, q + 2, none⟩ (.int .i64 (f 2))).setCell ⟨g, q + 3, none⟩ (.int .u64 (f 3))).setCell ⟨g, q + 4, none⟩ (.int .u64 (f 4))).setCell ⟨g, q + 5, none⟩ (.int .u64 (f 5))

theorem put6_out {W : World} {g q : Nat} {f : Nat → Int} {p : Nat} (h : p < q ∨ q + 6 ≤ p) : (put6 W g q f).cell? ⟨g, p, none⟩ = W.cell? ⟨g, p, none⟩ := by
  unfold put6
  rw [World.cell?_setCell_other _ _ _ _ (fun e => by injection e with _ e _; omega), World.cell?_setCell_other _ _ _ _ (fun e => by injection e with _ e _; omega), World.cell?_setCell_other _ _ _ _ (fun e => by injection e with _ e _; omega),
    World.cell?_setCell_other _ _ _ _ (fun e => by injection e with _ e _; omega), World.cell?_setCell_other _ _ _ _ (fun e => by injection e with _ e _; omega), World.cell?_setCell_other _ _ _ _ (fun e => by injection e with _ e _; omega)]

theorem set_some {W : World} {p q : Addr} {v u : Value} (h : W.cell? q = some u) : ∃ u', (W.setCell p v).cell? q = some u' := by
  by_cases e : q = p
  · subst e
    exact ⟨v, World.cell?_setCell_same _ _ _ h⟩
  · exact ⟨u, by rw [World.cell?_setCell_other _ _ _ _ (by first | exact e | exact fun x => e x.symm)]; exact h⟩

theorem put6_in {W : World} {g q : Nat} {f : Nat → Int} (h : ∀ r, r < 6 → ∃ u, W.cell? ⟨g, q + r, none⟩ = some u) : ∀ r, r < 6 → (put6 W g q f).cell? ⟨g, q + r, none⟩ = some (if r < 3 then .int .i64 (f r) else .int .u64 (f r)) := by
  intro r hr
  unfold put6
  match r, hr with
  | 0, hr =>
    obtain ⟨u, hu⟩ := h 0 hr
    simp only [Nat.add_zero] at hu ⊢
    rw [World.cell?_setCell_other _ _ _ _ (fun e => by injection e with _ e _; omega), World.cell?_setCell_other _ _ _ _ (fun e => by injection e with _ e _; omega), World.cell?_setCell_other _ _ _ _ (fun e => by injection e with _ e _; omega),
      World.cell?_setCell_other _ _ _ _ (fun e => by injection e with _ e _; omega), World.cell?_setCell_other _ _ _ _ (fun e => by injection e with _ e _; omega), World.cell?_setCell_same _ _ _ hu]
    rfl
  | 1, hr =>
    obtain ⟨u, hu⟩ := h 1 hr
    obtain ⟨u, hu⟩ := set_some (p := ⟨g, q, none⟩) (v := .int .i64 (f 0)) hu
    rw [World.cell?_setCell_other _ _ _ _ (fun e => by injection e with _ e _; omega), World.cell?_setCell_other _ _ _ _ (fun e => by injection e with _ e _; omega), World.cell?_setCell_other _ _ _ _ (fun e => by injection e with _ e _; omega),
      World.cell?_setCell_other _ _ _ _ (fun e => by injection e with _ e _; omega), World.cell?_setCell_same _ _ _ hu]
    rfl
  | 2, hr =>
    obtain ⟨u, hu⟩ := h 2 hr
    obtain ⟨u, hu⟩ := set_some (p := ⟨g, q, none⟩) (v := .int .i64 (f 0)) hu
    obtain ⟨u, hu⟩ := set_some (p := ⟨g, q + 1, none⟩) (v := .int .i64 (f 1)) hu
    rw [World.cell?_setCell_other _ _ _ _ (fun e => by injection e with _ e _; omega), World.cell?_setCell_other _ _ _ _ (fun e => by injection e with _ e _; omega), World.cell?_setCell_other _ _ _ _ (fun e => by injection e with _ e _; omega),
      World.cell?_setCell_same _ _ _ hu]
    rfl
  | 3, hr =>
    obtain ⟨u, hu⟩ := h 3 hr
    obtain ⟨u, hu⟩ := set_some (p := ⟨g, q, none⟩) (v := .int .i64 (f 0)) hu
    obtain ⟨u, hu⟩ := set_some (p := ⟨g, q + 1, none⟩) (v := .int .i64 (f 1)) hu
    obtain ⟨u, hu⟩ := set_some (p := ⟨g, q + 2, none⟩) (v := .int .i64 (f 2)) hu
    rw [World.cell?_setCell_other _ _ _ _ (fun e => by injection e with _ e _; omega), World.cell?_setCell_other _ _ _ _ (fun e => by injection e with _ e _; omega), World.cell?_setCell_same _ _ _ hu]
    rfl
  | 4, hr =>
    obtain ⟨u, hu⟩ := h 4 hr
    obtain ⟨u, hu⟩ := set_some (p := ⟨g, q, none⟩) (v := .int .i64 (f 0)) hu
    obtain ⟨u, hu⟩ := set_some (p := ⟨g, q + 1, none⟩) (v := .int .i64 (f 1)) hu
    obtain ⟨u, hu⟩ := set_some (p := ⟨g, q + 2, none⟩) (v := .int .i64 (f 2)) hu
    obtain ⟨u, hu⟩ := set_some (p := ⟨g, q + 3, none⟩) (v := .int .u64 (f 3)) hu
    rw [World.cell?_setCell_other _ _ _ _ (fun e => by injection e with _ e _; omega), World.cell?_setCell_same _ _ _ hu]
    rfl
  | 5, hr =>
    obtain ⟨u, hu⟩ := h 5 hr
    obtain ⟨u, hu⟩ := set_some (p := ⟨g, q, none⟩) (v := .int .i64 (f 0)) hu
    obtain ⟨u, hu⟩ := set_some (p := ⟨g, q + 1, none⟩) (v := .int .i64 (f 1)) hu
    obtain ⟨u, hu⟩ := set_some (p := ⟨g, q + 2, none⟩) (v := .int .i64 (f 2)) hu
    obtain ⟨u, hu⟩ := set_some (p := ⟨g, q + 3, none⟩) (v := .int .u64 (f 3)) hu
    obtain ⟨u, hu⟩ := set_some (p := ⟨g, q + 4, none⟩) (v := .int .u64 (f 4)) hu
    rw [World.cell?_setCell_same _ _ _ hu]
    rfl

theorem put6_size (W : World) (g q : Nat) (f : Nat → Int) : (put6 W g q f).heap.size = W.heap.size := by simp [put6]
theorem put6_below {B : Nat} {a W : World} (h : Below B a W) (g q : Nat) (f : Nat → Int) (hB : B ≤ g) : Below B a (put6 W g q f) := by
  unfold put6
  exact (((((h.setCell (p := ⟨g, q, none⟩) hB _).setCell (p := ⟨g, q + 1, none⟩) hB _).setCell (p := ⟨g, q + 2, none⟩) hB _).setCell (p := ⟨g, q + 3, none⟩) hB _).setCell (p := ⟨g, q + 4, none⟩) hB _).setCell (p := ⟨g, q + 5, none⟩) hB _

/-- Two steps in each other's place, in memory. -/
theorem put_swp {W : World} {g n a : Nat} {st : Nat → Nat → Int} (hg : g < W.heap.size) (ha : a + 1 < n) (h : ∀ i, i < n → ∀ r, r < 6 → W.cell? ⟨g, i * 6 + r, none⟩ = some (cellV st i r)) :
    StOk (put6 (put6 W g (a * 6) (st (a + 1))) g ((a + 1) * 6) (st a)) (some ⟨g, 0, none⟩) n (swp st a) := by
  refine StOk.of_at (by rw [put6_size, put6_size]; exact hg) (fun i hi r hr => ?_)
  by_cases e1 : i = a + 1
  · subst e1
    rw [put6_in (fun r hr => by rw [put6_out (.inr (by omega))]; exact ⟨_, h (a + 1) hi r hr⟩) r hr]
    unfold cellV swp
    simp
  · rw [put6_out (by omega)]
    by_cases e2 : i = a
    · subst e2
      rw [put6_in (fun r hr => ⟨_, h i hi r hr⟩) r hr]
      unfold cellV swp
      simp
    · rw [put6_out (by omega), h i hi r hr]
      unfold cellV swp
      simp [e1, e2]

theorem StOk.drew {W : World} {A : Option Addr} {n : Nat} {st : Nat → Nat → Int} (h : StOk W A n st) : StOk W.drew A n st := h

/-- A step in a box. -/
def Box6 (W : World) (g : Nat) (st : Nat → Nat → Int) (i : Nat) : Prop :=
  W.cell? ⟨g, 0, none⟩ = some (.int .i64 (st i 0)) ∧ W.cell? ⟨g, 1, none⟩ = some (.int .i64 (st i 1)) ∧ W.cell? ⟨g, 2, none⟩ = some (.int .i64 (st i 2)) ∧
  W.cell? ⟨g, 3, none⟩ = some (.int .u64 (st i 3)) ∧ W.cell? ⟨g, 4, none⟩ = some (.int .u64 (st i 4)) ∧ W.cell? ⟨g, 5, none⟩ = some (.int .u64 (st i 5))

set_option maxRecDepth 100000 in
set_option maxHeartbeats 1000000 in
theorem logSwaps_walk (A : Option Addr) (len cap : Nat) (A2 : Option Addr) (len2 cap2 : Nat) (x : Int) (hwx : (Lit.int .i64 x).wf = true) (w : World) (hr : RowOk w 5 [.int .u64] A len cap) (hr2 : RowOk w 5 [.int .i64, .int .i64, .int .i64, .int .u64, .int .u64, .int .u64] A2 len2 cap2) :
    Calls Try.prog 5 #[.slice A len cap, .slice A2 len2 cap2, .int .i64 x] w fun e w' => e = .returned (.bool true) ∧ Below w.heap.size w w' := by
  have hm := hr.1
  have hm2 := hr.2.1
  have hm3 := hr2.1
  have hm4 := hr2.2.1
  unfold maxLen at hm2 hm4
  obtain ⟨b, o, z, hA, hc⟩ := hr.ints
  obtain ⟨st, hS, _⟩ := StOk.of_row hr2
  have HS := hide hS
  have HA := hide hA
  have HC := hide (fun i hi => (hc i hi).1 : ∀ i, i < len → w.cell? ⟨b, o + i, none⟩ = some (.int .u64 (z i)))
  have hfew := hide (fun W => few13_any A A2 len cap len2 cap2 (by omega) (by omega) W)
  have hwx2 := wf_i64 hwx
  clear hr hr2 hA hc hS hwx
  by_cases hl : ¬ (len ≤ 200 ∧ len2 ≤ 100)
  · have hen := hide (end_some A len cap A2 len2 cap2 st (by omega) (by omega) b o z w (unhide HA) (unhide HC) (unhide HS))
    have hd : Hid (decide (len ≤ 200 ∧ len2 ≤ 100) = false) := hide (by simpa using hl)
    clear hl
    go_enter Try.func5, Try.ntmps5
    go_wp2_with fail
    refine (unhide hen).mono ?_
    rintro e w1 ⟨⟨v, E, rfl⟩, hb1⟩
    have hsb := hb1.size
    go_wp2_with fail
    have hf := unhide hfew w1
    rw [unhide hd] at hf
    refine hf.mono ?_
    rintro e w0 ⟨rfl, rfl⟩
    clear hf
    go_wp2_with (go_at_call 10; refine (works13_any _).mono ?_; rintro e ww ⟨rfl, hww⟩; obtain ⟨hcww, hfww⟩ := bcell hww; (try (simp only [World.size_drew, World.cell?_drew, World.frozen?_drew] at hcww hfww)); have hzww := hww.size; (try (simp only [World.size_alloc, World.size_setCell, World.size_drew] at hzww)); (try (have hzww_w_0 : w.heap.size < ww.heap.size := by omega)); (try (have hzww_w_1 : w.heap.size + 1 < ww.heap.size := by omega)); (try (have hzww_w_2 : w.heap.size + 1 + 1 < ww.heap.size := by omega)); (try (have hzww_w_3 : w.heap.size + 1 + 1 + 1 < ww.heap.size := by omega)); (try (have hyww_w : w.heap.size ≤ ww.heap.size := by omega)); (try (have hyww_wa : w.heap.size + 1 ≤ ww.heap.size := by omega)))
    go_ret
    exact ⟨rfl, by repeat (first | exact Below.refl _ _ | assumption | refine Below.alloc ?_ (by first | (simp; done) | (simp; omega) | omega) _ | refine Below.setCell ?_ (by first | (simp; done) | (simp; omega) | omega) _ | apply Below.drew | refine Below.trans ?_ (Below.mono (by assumption) (by first | (simp; done) | (simp; omega) | omega)))⟩
  have hl1 : len ≤ 200 := by omega
  have hl2 : len2 ≤ 100 := by omega
  have hd : Hid (decide (len ≤ 200 ∧ len2 ≤ 100) = true) := hide (by simpa using ⟨hl1, hl2⟩)
  clear hl
  by_cases h0 : len < 1
  · have hno : ¬ (1 ≤ len ∧ len ≤ 16384) := by omega
    have he := hide (fun W => end_no A len cap (by omega) hno A2 len2 cap2 W)
    clear hno
    go_enter Try.func5, Try.ntmps5
    go_wp2_with fail
    refine (unhide he _).mono ?_
    rintro e w1 ⟨rfl, hb1⟩
    have hsb := hb1.size
    go_wp2_with fail
    have hf := unhide hfew w1
    rw [unhide hd] at hf
    refine hf.mono ?_
    rintro e w0 ⟨rfl, rfl⟩
    clear hf
    go_wp2_with (first | (go_at_call 15; refine (num13_any _ _).mono ?_; rintro e w' ⟨rfl, rfl⟩) | (go_at_call 10; refine (works13_any _).mono ?_; rintro e ww ⟨rfl, hww⟩; obtain ⟨hcww, hfww⟩ := bcell hww; (try (simp only [World.size_drew, World.cell?_drew, World.frozen?_drew] at hcww hfww)); have hzww := hww.size; (try (simp only [World.size_alloc, World.size_setCell, World.size_drew] at hzww)); (try (have hzww_w_0 : w.heap.size < ww.heap.size := by omega)); (try (have hzww_w_1 : w.heap.size + 1 < ww.heap.size := by omega)); (try (have hzww_w_2 : w.heap.size + 1 + 1 < ww.heap.size := by omega)); (try (have hzww_w_3 : w.heap.size + 1 + 1 + 1 < ww.heap.size := by omega)); (try (have hyww_w : w.heap.size ≤ ww.heap.size := by omega)); (try (have hyww_wa : w.heap.size + 1 ≤ ww.heap.size := by omega))))
    go_ret
    exact ⟨rfl, by repeat (first | exact Below.refl _ _ | assumption | refine Below.alloc ?_ (by first | (simp; done) | (simp; omega) | omega) _ | refine Below.setCell ?_ (by first | (simp; done) | (simp; omega) | omega) _ | apply Below.drew | refine Below.trans ?_ (Below.mono (by assumption) (by first | (simp; done) | (simp; omega) | omega)))⟩
  obtain ⟨rfl, hb⟩ := unhide HA (by omega)
  have he := hide (end_yes b o len cap z (by omega) (by omega) A2 len2 cap2 st (by omega) w hb (unhide HC) (unhide HS))
  clear HA
  by_cases hbad : ¬ (0 ≤ x ∧ x < (len2 : Int) - 1)
  · have hxx : x < 0 ∨ (¬ x < 0 ∧ (len2 : Int) - 1 ≤ x) := by omega
    clear hbad
    go_enter Try.func5, Try.ntmps5
    go_wp2_with fail
    refine (unhide he).mono ?_
    rintro e w1 ⟨⟨hok, b2, c2, rfl, hb2s, hcc2⟩ | ⟨_, rfl⟩, hb1⟩
    · have hsb := hb1.size
      clear hok hcc2
      go_wp2_with fail
      have hf := unhide hfew w1
      rw [unhide hd] at hf
      refine hf.mono ?_
      rintro e w0 ⟨rfl, rfl⟩
      clear hf
      rcases hxx with hxx | ⟨hxx, hxy⟩
      all_goals
        go_wp2_with (first | (go_at_call 15; refine (num13_any _ _).mono ?_; rintro e w' ⟨rfl, rfl⟩) | (go_at_call 10; refine (works13_any _).mono ?_; rintro e ww ⟨rfl, hww⟩; obtain ⟨hcww, hfww⟩ := bcell hww; (try (simp only [World.size_drew, World.cell?_drew, World.frozen?_drew] at hcww hfww)); have hzww := hww.size; (try (simp only [World.size_alloc, World.size_setCell, World.size_drew] at hzww)); (try (have hzww_w_0 : w.heap.size < ww.heap.size := by omega)); (try (have hzww_w_1 : w.heap.size + 1 < ww.heap.size := by omega)); (try (have hzww_w_2 : w.heap.size + 1 + 1 < ww.heap.size := by omega)); (try (have hzww_w_3 : w.heap.size + 1 + 1 + 1 < ww.heap.size := by omega)); (try (have hyww_w : w.heap.size ≤ ww.heap.size := by omega)); (try (have hyww_wa : w.heap.size + 1 ≤ ww.heap.size := by omega))))
        go_ret
        exact ⟨rfl, by repeat (first | exact Below.refl _ _ | assumption | refine Below.alloc ?_ (by first | (simp; done) | (simp; omega) | omega) _ | refine Below.setCell ?_ (by first | (simp; done) | (simp; omega) | omega) _ | apply Below.drew | refine Below.trans ?_ (Below.mono (by assumption) (by first | (simp; done) | (simp; omega) | omega)))⟩
    · have hsb := hb1.size
      go_wp2_with fail
      have hf := unhide hfew w1
      rw [unhide hd] at hf
      refine hf.mono ?_
      rintro e w0 ⟨rfl, rfl⟩
      clear hf hxx
      go_wp2_with (first | (go_at_call 15; refine (num13_any _ _).mono ?_; rintro e w' ⟨rfl, rfl⟩) | (go_at_call 10; refine (works13_any _).mono ?_; rintro e ww ⟨rfl, hww⟩; obtain ⟨hcww, hfww⟩ := bcell hww; (try (simp only [World.size_drew, World.cell?_drew, World.frozen?_drew] at hcww hfww)); have hzww := hww.size; (try (simp only [World.size_alloc, World.size_setCell, World.size_drew] at hzww)); (try (have hzww_w_0 : w.heap.size < ww.heap.size := by omega)); (try (have hzww_w_1 : w.heap.size + 1 < ww.heap.size := by omega)); (try (have hzww_w_2 : w.heap.size + 1 + 1 < ww.heap.size := by omega)); (try (have hzww_w_3 : w.heap.size + 1 + 1 + 1 < ww.heap.size := by omega)); (try (have hyww_w : w.heap.size ≤ ww.heap.size := by omega)); (try (have hyww_wa : w.heap.size + 1 ≤ ww.heap.size := by omega))))
      go_ret
      exact ⟨rfl, by repeat (first | exact Below.refl _ _ | assumption | refine Below.alloc ?_ (by first | (simp; done) | (simp; omega) | omega) _ | refine Below.setCell ?_ (by first | (simp; done) | (simp; omega) | omega) _ | apply Below.drew | refine Below.trans ?_ (Below.mono (by assumption) (by first | (simp; done) | (simp; omega) | omega)))⟩
  obtain ⟨a, rfl⟩ : ∃ a : Nat, x = a := ⟨x.toNat, by omega⟩
  have ha : a + 1 < len2 := by omega
  have x1 : ¬ (a : Int) < 0 := by omega
  have x2 : ¬ (len2 : Int) - 1 ≤ (a : Int) := by omega
  have hbb : (0 : Int) ≤ (a : Int) := by omega
  have hbb2 : (a : Int) < (len2 : Int) := by omega
  have hbb3 : (0 : Int) ≤ (a : Int) + 1 := by omega
  have hbb4 : (a : Int) + 1 < (len2 : Int) := by omega
  have hsum : IntKind.i64.wrap ((a : Int) + 1) = (a : Int) + 1 := IntWalk.i64_in _ (by omega)
  have htn : ((a : Int) + 1).toNat = a + 1 := by omega
  have HSUM := hide hsum
  have HTN := hide htn
  clear hbad hwx2 hsum htn
  go_enter Try.func5, Try.ntmps5
  go_wp2_with fail
  refine (unhide he).mono ?_
  rintro e w1 ⟨⟨hok, b2, c2, rfl, hb2s, hcc2⟩ | ⟨_, rfl⟩, hb1⟩
  rotate_left
  · have hsb := hb1.size
    go_wp2_with fail
    have hf := unhide hfew w1
    rw [unhide hd] at hf
    refine hf.mono ?_
    rintro e w0 ⟨rfl, rfl⟩
    clear hf
    go_wp2_with (first | (go_at_call 15; refine (num13_any _ _).mono ?_; rintro e w' ⟨rfl, rfl⟩) | (go_at_call 10; refine (works13_any _).mono ?_; rintro e ww ⟨rfl, hww⟩; obtain ⟨hcww, hfww⟩ := bcell hww; (try (simp only [World.size_drew, World.cell?_drew, World.frozen?_drew] at hcww hfww)); have hzww := hww.size; (try (simp only [World.size_alloc, World.size_setCell, World.size_drew] at hzww)); (try (have hzww_w_0 : w.heap.size < ww.heap.size := by omega)); (try (have hzww_w_1 : w.heap.size + 1 < ww.heap.size := by omega)); (try (have hzww_w_2 : w.heap.size + 1 + 1 < ww.heap.size := by omega)); (try (have hzww_w_3 : w.heap.size + 1 + 1 + 1 < ww.heap.size := by omega)); (try (have hyww_w : w.heap.size ≤ ww.heap.size := by omega)); (try (have hyww_wa : w.heap.size + 1 ≤ ww.heap.size := by omega))))
    go_ret
    exact ⟨rfl, by repeat (first | exact Below.refl _ _ | assumption | refine Below.alloc ?_ (by first | (simp; done) | (simp; omega) | omega) _ | refine Below.setCell ?_ (by first | (simp; done) | (simp; omega) | omega) _ | apply Below.drew | refine Below.trans ?_ (Below.mono (by assumption) (by first | (simp; done) | (simp; omega) | omega)))⟩
  have HOK := hide hok
  have HCC := hide hcc2
  have B1 := hide hb1
  obtain ⟨bs, os, rfl, hbs, hcs⟩ := (unhide HS).keep hb1 (by omega)
  have HS1 := hide ((unhide HS).keep hb1)
  have BA : Hid (∀ j, j = a ∨ j = a + 1 → w1.cell? ⟨bs, os + j * 6, none⟩ = some (.int .i64 (st j 0)) ∧ w1.cell? ⟨bs, os + j * 6 + 1, none⟩ = some (.int .i64 (st j 1)) ∧ w1.cell? ⟨bs, os + j * 6 + 2, none⟩ = some (.int .i64 (st j 2)) ∧
    w1.cell? ⟨bs, os + j * 6 + 3, none⟩ = some (.int .u64 (st j 3)) ∧ w1.cell? ⟨bs, os + j * 6 + 4, none⟩ = some (.int .u64 (st j 4)) ∧ w1.cell? ⟨bs, os + j * 6 + 5, none⟩ = some (.int .u64 (st j 5))) := hide (fun j hj => hcs j (by omega))
  clear hok hcc2 hb1 hcs he
  go_wp2_with fail
  have hf := unhide hfew w1
  rw [unhide hd] at hf
  refine hf.mono ?_
  rintro e w0 ⟨rfl, rfl⟩
  clear hf
  go_upto_region 4 with (go_at_call 15; refine (num13_any _ _).mono ?_; rintro e w' ⟨rfl, rfl⟩)
  go_cut [9, 10] (fun s9 s10 wx => ∃ g9 g10 : Nat, s9 = .pointer (some ⟨g9, 0, none⟩) ∧ s10 = .pointer (some ⟨g10, 0, none⟩) ∧ Hid (Box6 wx g9 st a ∧ Box6 wx g10 st (a + 1)) ∧ Below w1.heap.size w1 wx ∧ g9 < wx.heap.size ∧ g10 < wx.heap.size ∧ w1.heap.size ≤ g9 ∧ w1.heap.size ≤ g10)
  case first =>
    obtain ⟨p0, p1, p2, p3, p4, p5⟩ := unhide BA a (.inl rfl)
    obtain ⟨q0, q1, q2, q3, q4, q5⟩ := unhide BA (a + 1) (.inr rfl)
    have hsum := unhide HSUM
    have htn := unhide HTN
    go_region
    all_goals
      go_wp2_with fail
      go_meet
    · exact ⟨_, _, rfl, rfl, hide ⟨by unfold Box6; refine ⟨?_, ?_, ?_, ?_, ?_, ?_⟩ <;> go_simp, by unfold Box6; refine ⟨?_, ?_, ?_, ?_, ?_, ?_⟩ <;> go_simp⟩, by repeat (first | exact Below.refl _ _ | assumption | refine Below.alloc ?_ (by first | (simp; done) | (simp; omega) | omega) _ | refine Below.setCell ?_ (by first | (simp; done) | (simp; omega) | omega) _ | apply Below.drew | refine Below.trans ?_ (Below.mono (by assumption) (by first | (simp; done) | (simp; omega) | omega))), by simp; omega, by simp, Nat.le_refl _, by omega⟩
    · exact ⟨_, _, rfl, rfl, hide ⟨by unfold Box6; refine ⟨?_, ?_, ?_, ?_, ?_, ?_⟩ <;> go_simp, by unfold Box6; refine ⟨?_, ?_, ?_, ?_, ?_, ?_⟩ <;> go_simp⟩, by repeat (first | exact Below.refl _ _ | assumption | refine Below.alloc ?_ (by first | (simp; done) | (simp; omega) | omega) _ | refine Below.setCell ?_ (by first | (simp; done) | (simp; omega) | omega) _ | apply Below.drew | refine Below.trans ?_ (Below.mono (by assumption) (by first | (simp; done) | (simp; omega) | omega))), by simp, by simp; omega, by omega, Nat.le_refl _⟩
  case rest =>
    obtain ⟨g9, g10, rfl, rfl, HBX, hBx, h9, h10, l9, l10⟩ := hcut
    have HSc := hide ((unhide HS1).keep hBx)
    have hBw : Below w.heap.size w wc := (unhide B1).trans (hBx.mono (unhide B1).size)
    have hsc := hBw.size
    have s1c := hBx.size
    have HCc := hide (fun i hi => (hBx.cell (p := ⟨b2, 0 + i, none⟩) hb2s).trans (unhide HCC i hi) : ∀ i, i < len → wc.cell? ⟨b2, 0 + i, none⟩ = some (.int .u64 (aft len z st len2 i)))
    obtain ⟨⟨p0, p1, p2, p3, p4, p5⟩, ⟨q0, q1, q2, q3, q4, q5⟩⟩ := unhide HBX
    clear HCC HS1 BA hBx hfew
    by_cases hq : st a 2 = st (a + 1) 2
    · have hqb : (st a 2 == st (a + 1) 2) = true := by simpa using hq
      clear hq
      go_wp2_with (go_at_call 10; refine (works13_any _).mono ?_; rintro e ww ⟨rfl, hww⟩; obtain ⟨hcww, hfww⟩ := bcell hww; (try (simp only [World.size_drew, World.cell?_drew, World.frozen?_drew] at hcww hfww)); have hzww := hww.size; (try (simp only [World.size_alloc, World.size_setCell, World.size_drew] at hzww)); (try (have hzww_w_0 : w.heap.size < ww.heap.size := by omega)); (try (have hzww_w_1 : w.heap.size + 1 < ww.heap.size := by omega)); (try (have hzww_w_2 : w.heap.size + 1 + 1 < ww.heap.size := by omega)); (try (have hzww_w_3 : w.heap.size + 1 + 1 + 1 < ww.heap.size := by omega)); (try (have hyww_w : w.heap.size ≤ ww.heap.size := by omega)); (try (have hyww_wa : w.heap.size + 1 ≤ ww.heap.size := by omega)))
      go_ret
      exact ⟨rfl, by repeat (first | exact Below.refl _ _ | assumption | refine Below.alloc ?_ (by first | (simp; done) | (simp; omega) | omega) _ | refine Below.setCell ?_ (by first | (simp; done) | (simp; omega) | omega) _ | apply Below.drew | refine Below.trans ?_ (Below.mono (by assumption) (by first | (simp; done) | (simp; omega) | omega)))⟩
    have hqb : (st a 2 == st (a + 1) 2) = false := by simpa using hq
    obtain ⟨C, W2, hrun, hbW, hsW, hC, hcell⟩ := cloneS_run bs os len2 cap2 st (by omega) (by omega) wc (unhide HSc)
    have u0 := (hbW.cell (p := ⟨g9, 0, none⟩) h9).trans p0
    have u1 := (hbW.cell (p := ⟨g9, 1, none⟩) h9).trans p1
    have u2 := (hbW.cell (p := ⟨g9, 2, none⟩) h9).trans p2
    have u3 := (hbW.cell (p := ⟨g9, 3, none⟩) h9).trans p3
    have u4 := (hbW.cell (p := ⟨g9, 4, none⟩) h9).trans p4
    have u5 := (hbW.cell (p := ⟨g9, 5, none⟩) h9).trans p5
    have v0 := (hbW.cell (p := ⟨g10, 0, none⟩) h10).trans q0
    have v1 := (hbW.cell (p := ⟨g10, 1, none⟩) h10).trans q1
    have v2 := (hbW.cell (p := ⟨g10, 2, none⟩) h10).trans q2
    have v3 := (hbW.cell (p := ⟨g10, 3, none⟩) h10).trans q3
    have v4 := (hbW.cell (p := ⟨g10, 4, none⟩) h10).trans q4
    have v5 := (hbW.cell (p := ⟨g10, 5, none⟩) h10).trans q5
    have NQ := hide hq
    have HCL := hide hcell
    have HBW := hide hbW
    have kA : ∀ r, r < 6 → W2.cell? ⟨wc.heap.size, a * 6 + r, none⟩ = some (cellV st a r) ∧ W2.frozen? ⟨wc.heap.size, a * 6 + r, none⟩ = false := fun r hr => hcell a (by omega) r hr
    have kB : ∀ r, r < 6 → W2.cell? ⟨wc.heap.size, (a + 1) * 6 + r, none⟩ = some (cellV st (a + 1) r) ∧ W2.frozen? ⟨wc.heap.size, (a + 1) * 6 + r, none⟩ = false := fun r hr => hcell (a + 1) ha r hr
    have KAB := hide (And.intro kA kB)
    have n9 : g9 ≠ wc.heap.size := by omega
    have n10 : g10 ≠ wc.heap.size := by omega
    clear p0 p1 p3 p4 p5 q0 q1 q3 q4 q5 hcell hbW hq kA kB HBX HSc HS
    go_wp2_with (at_builtin; refine Lib.wpList_append_run _ rfl _ _ _ _ rfl _ _ rfl rfl _ _ hrun ?_)
    clear hrun
    have hsum := unhide HSUM
    have htn := unhide HTN
    obtain ⟨a0, f0⟩ := (unhide KAB).1 0 (by omega)
    obtain ⟨a1, f1⟩ := (unhide KAB).1 1 (by omega)
    obtain ⟨a2, f2⟩ := (unhide KAB).1 2 (by omega)
    obtain ⟨a3, f3⟩ := (unhide KAB).1 3 (by omega)
    obtain ⟨a4, f4⟩ := (unhide KAB).1 4 (by omega)
    obtain ⟨a5, f5⟩ := (unhide KAB).1 5 (by omega)
    obtain ⟨d0, e0⟩ := (unhide KAB).2 0 (by omega)
    obtain ⟨d1, e1⟩ := (unhide KAB).2 1 (by omega)
    obtain ⟨d2, e2⟩ := (unhide KAB).2 2 (by omega)
    obtain ⟨d3, e3⟩ := (unhide KAB).2 3 (by omega)
    obtain ⟨d4, e4⟩ := (unhide KAB).2 4 (by omega)
    obtain ⟨d5, e5⟩ := (unhide KAB).2 5 (by omega)
    rw [Nat.add_zero] at a0 f0 d0 e0
    clear p2 q2
    go_region
    clear a0 a1 a2 a3 a4 a5 f0 f1 f2 f3 f4 f5 d0 d1 d2 d3 d4 d5 e0 e1 e2 e3 e4 e5 u0 u1 u2 u3 u4 u5 v0 v1 v2 v3 v4 v5 hsum htn KAB
    obtain ⟨W3, hW3⟩ : ∃ X, X = (put6 (put6 W2 wc.heap.size (a * 6) (st (a + 1))) wc.heap.size ((a + 1) * 6) (st a)).drew := ⟨_, rfl⟩
    have HS3 := hide (show StOk W3 (some ⟨wc.heap.size, 0, none⟩) len2 (swp st a) by rw [hW3]; exact StOk.drew (put_swp hsW ha (fun i hi r hr => (unhide HCL i hi r hr).1)))
    have hB3 : Below wc.heap.size wc W3 := by rw [hW3]; exact Below.drew (put6_below (put6_below (unhide HBW) _ _ _ (Nat.le_refl _)) _ _ _ (Nat.le_refl _))
    unfold put6 at hW3
    rw [← hW3]
    obtain ⟨o1, o2⟩ := swp_ok ha (unhide HOK) (unhide NQ)
    have hBW3 : Below w.heap.size w W3 := hBw.trans (hB3.mono hsc)
    have hen := hide (end_yes b o len cap z (by omega) (by omega) (some ⟨wc.heap.size, 0, none⟩) len2 C (swp st a) (by omega) W3 (Nat.lt_of_lt_of_le hb hBW3.size) (fun i hi => (hBW3.cell (p := ⟨b, o + i, none⟩) hb).trans (unhide HC i hi)) (unhide HS3))
    have HC3 := hide (And.intro (Nat.lt_of_lt_of_le (Nat.lt_of_lt_of_le hb2s s1c) hB3.size) (fun i hi => (hB3.cell (p := ⟨b2, 0 + i, none⟩) (Nat.lt_of_lt_of_le hb2s s1c)).trans (unhide HCc i hi) : ∀ i, i < len → W3.cell? ⟨b2, 0 + i, none⟩ = some (.int .u64 (aft len z st len2 i))))
    have B3 := hide hBW3
    have O1 := hide o1
    have O2 := hide o2
    clear hW3 o1 o2 hB3 hBW3 HBW HCL HS3 HCc hBw hsW NQ HOK
    go_wp2_with fail
    refine (unhide hen).mono ?_
    rintro e w4 ⟨⟨_, b4, c4, rfl, hs4, hx4⟩ | ⟨⟨kb, hkb1, hkb2⟩, _⟩, hb4⟩
    rotate_left
    · exfalso
      rw [unhide O1 kb hkb1] at hkb2
      cases hkb2
    have B4 := hide ((unhide B3).trans (hb4.mono (unhide B3).size))
    rw [unhide O2] at hx4
    have hsm := refSame_any b4 0 c4 b2 0 c2 len (aft len z st len2) (aft len z st len2) (by omega) w4 hx4 (fun i hi => (hb4.cell (p := ⟨b2, 0 + i, none⟩) (unhide HC3).1).trans ((unhide HC3).2 i hi))
    rw [show eqTo (aft len z st len2) (aft len z st len2) len = true from eqTo_iff.2 fun _ _ => rfl] at hsm
    have HSM := hide hsm
    clear hb4 hx4 hs4 hsm hen B3 HC3
    go_wp2_with (go_at_call 15; refine (num13_any _ _).mono ?_; rintro e w' ⟨rfl, rfl⟩)
    refine (unhide HSM).mono ?_
    rintro e w5 ⟨rfl, hb5⟩
    have B5 := hide ((unhide B4).trans (hb5.mono (unhide B4).size))
    clear hb5 B4
    go_wp2_with (go_at_call 10; refine (works13_any _).mono ?_; rintro e ww ⟨rfl, hww⟩; obtain ⟨hcww, hfww⟩ := bcell hww; (try (simp only [World.size_drew, World.cell?_drew, World.frozen?_drew] at hcww hfww)); have hzww := hww.size; (try (simp only [World.size_alloc, World.size_setCell, World.size_drew] at hzww)); (try (have hzww_w_0 : w.heap.size < ww.heap.size := by omega)); (try (have hzww_w_1 : w.heap.size + 1 < ww.heap.size := by omega)); (try (have hzww_w_2 : w.heap.size + 1 + 1 < ww.heap.size := by omega)); (try (have hzww_w_3 : w.heap.size + 1 + 1 + 1 < ww.heap.size := by omega)); (try (have hyww_w : w.heap.size ≤ ww.heap.size := by omega)); (try (have hyww_wa : w.heap.size + 1 ≤ ww.heap.size := by omega)))
    go_ret
    refine ⟨rfl, ?_⟩
    have := unhide B5
    have hsb := this.size
    repeat (first | exact Below.refl _ _ | assumption | refine Below.alloc ?_ (by first | (simp; done) | (simp; omega) | omega) _ | refine Below.setCell ?_ (by first | (simp; done) | (simp; omega) | omega) _ | apply Below.drew | refine Below.trans ?_ (Below.mono (by assumption) (by first | (simp; done) | (simp; omega) | omega)))
end Go.Proofs.Ytdkpadiaikfdpaa
